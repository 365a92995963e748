/- Bundle 6: NwX10, NwXA, NwX11, NwX12. -/
import Derived.Test.YtbooikopklijdaaGreatDoorNwG5
import Derived.LaidEqlPtr
import Derived.Lib.Builder
import Derived.Laws.MakeOwn
import Derived.Laws.Cover2
import Derived.Laws.CopyRow
import Derived.Lib.UnsafeStr
set_option linter.constructorNameAsVariable false
set_option linter.unusedVariables false
set_option linter.unusedSimpArgs false
set_option linter.unusedSectionVars false
section
/- X10: maps. -/
open Go Go.RowKit Go.MapKept
namespace Go.Proofs.Nw.X
open Go.Proofs.Nw.K
noncomputable def allS (l : List V) : Bool := List.rec true (fun x _ ih => match x with | .s _ _ => ih | _ => false) l
noncomputable def keyOk (kind : Nat) (key : V) : Bool :=
  match kind, key with
  | 0, .s _ _ => true
  | 1, .i _ _ => true
  | n + 2, .ag cs => cond (Nat.beq (lenL cs) n) (allS cs) false
  | _, _ => false
noncomputable def keyEq (kind : Nat) (key k : V) : Option Bool :=
  match kind, key, k with
  | 0, .s n a, .s m b => some (seq n a m b)
  | 1, .i k a, .i k' b => cond (Nat.beq (ikN k) (ikN k')) (some (ieq a b)) none
  | n + 2, .ag cs, .ag ds => cond (Nat.beq (lenL cs) n) (eqAg cs ds) none
  | _, _, _ => none
noncomputable def findE (kind : Nat) (key : V) (m : List (V × V)) : Option (Option Nat) :=
  List.rec (some none) (fun p _ ih => match keyEq kind key p.1 with
    | some true => some (some 0)
    | some false => (match ih with | some (some i) => some (some (i + 1)) | r => r)
    | none => none) m
theorem findE_cons (kind : Nat) (key : V) (p : V × V) (m : List (V × V)) : findE kind key (p :: m) = (match keyEq kind key p.1 with
    | some true => some (some 0)
    | some false => (match findE kind key m with | some (some i) => some (some (i + 1)) | r => r)
    | none => none) := rfl
def KindOk (P : Program) (kt : TypeId) : Nat → Prop
  | 0 => P.underlying kt = some .string
  | 1 => ∃ k, P.underlying kt = some (.int k)
  | n + 2 => strStruct P kt = some n
theorem allS_cons (c : V) (cs : List V) : allS (c :: cs) = (match c with | .s _ _ => allS cs | _ => false) := rfl
theorem allS_spec {ι : Io} : ∀ {cs : List V} {us : List Value}, allS cs = true → RVs ι cs us → ∃ a : List ByteArray, us = a.map Value.string ∧ a.length = cs.length
  | [], us, h, hr => ⟨[], hr, rfl⟩
  | c :: cs, us, h, hr => by
    have h' := h
    rw [allS_cons] at h'
    split at h'
    · obtain ⟨u, r, rfl, ⟨s, rfl, _⟩, h3⟩ := hr
      obtain ⟨a, rfl, e⟩ := allS_spec h' h3
      exact ⟨s :: a, rfl, by simp [e]⟩
    · cases h'
theorem keyR_sub {P : Program} {kt : TypeId} {n : Nat} (ht : strStruct P kt = some n) : KeyR P kt (fun a : {l : List ByteArray // l.length = n} => .agg (a.1.map Value.string).toArray) :=
  keyR_strs ht (fun a => a.1) (fun a => a.2) (fun a b h => Subtype.ext h)
theorem key_check {P : Program} {kt : TypeId} {kind : Nat} (hk : KindOk P kt kind) {ι : Io} {key : V} {u : Value} (ho : keyOk kind key = true) (hr : RV ι key u) (w : World) (em : Bool) :
    (Instr.checkKey em 10000 kt u).run P w = .ok () w ∧ (Instr.keyThatStays u u).run P w = .ok u w := by
  unfold keyOk at ho
  split at ho
  · obtain ⟨s, rfl, _⟩ := hr
    exact ⟨run_checkKey (d := .string) (k := .string s) hk trivial em 9999, run_keyThatStays (d := .string) trivial⟩
  · rename_i k a
    have hr : u = _ := hr
    subst hr
    obtain ⟨k0, hk⟩ := hk
    exact ⟨by
      rw [show (10000 : Nat) = 9999 + 1 from rfl]
      unfold Instr.checkKey
      simp [run_underlying hk], by simp [Instr.keyThatStays, Instr.sameBits]⟩
  · rename_i n cs
    obtain ⟨us, rfl, hr⟩ := hr
    rw [beq_eq] at ho
    by_cases c : lenL cs = n
    · simp only [c, decide_true, cond_true] at ho
      obtain ⟨a, rfl, hl⟩ := allS_spec ho hr
      have K := keyR_sub (P := P) (kt := kt) hk
      have hl2 : a.length = n := by rw [hl, ← lenL_eq]; exact c
      exact ⟨K.check w em ⟨a, hl2⟩, K.stays w ⟨a, hl2⟩⟩
    · simp only [c, decide_false, cond_false] at ho; cases ho
  · cases ho
theorem eqStrs_true {a b : List ByteArray} (hl : a.length = b.length) (h : eqStrs a b = true) : a = b := by rw [eqStrs_iff a b hl] at h; exact of_decide_eq_true h
theorem key_eq {P : Program} {kt : TypeId} {n : Nat} (ht : strStruct P kt = some n) {ι : Io} {cs ds : List V} {r : Bool} (h : cond (Nat.beq (lenL cs) n) (eqAg cs ds) none = some r) {u u' : Value} (h1 : RV ι (.ag cs) u) (h2 : RV ι (.ag ds) u') (w : World) :
    (Op.equal kt u u').run P w = .ok r w ∧ (r = true → u' = u) := by
  rw [beq_eq] at h
  by_cases c : lenL cs = n
  case neg => simp only [c, decide_false, cond_false] at h; cases h
  simp only [c, decide_true, cond_true] at h
  obtain ⟨us, rfl, r1⟩ := h1
  obtain ⟨vs, rfl, r2⟩ := h2
  obtain ⟨a, b, rfl, rfl, e, l1, l2⟩ := eqAg_spec h r1 r2
  rw [lenL_eq] at c
  refine ⟨?_, fun hr => by rw [eqStrs_true (by omega) (e.trans hr)]⟩
  unfold strStruct at ht
  split at ht <;> try cases ht
  rename_i fs hu
  split at ht <;> try cases ht
  rename_i hc
  simp only [Bool.and_eq_true, Bool.not_eq_true'] at hc
  obtain ⟨⟨c1, c2⟩, c3⟩ := hc
  have hS : P.underlying kt = some (.struct (P.fieldsOf kt)) := by simp [Program.fieldsOf, hu]
  have hfs : P.fieldsOf kt = fs := by simp [Program.fieldsOf, hu]
  have hr := eqFields_run (P := P) (w := w) 9998 fs.toList 0 [] [] a b c1 rfl rfl (by simp; omega) (by simp; omega)
  simp only [List.nil_append, e] at hr
  unfold Op.equal Op.maxDepth
  rw [show (10000 : Nat) = 9999 + 1 from rfl, run_equalIn_agg w 9999 kt _ _ hS c2, hfs]; exact hr
def Found (es : List MapEntry) (u : Value) (off : Nat) : Option Nat → Option (Nat × Value) → Prop
  | none, r => r = none
  | some i, r => ∃ me, es[i]? = some me ∧ me.key = u ∧ r = some (off + i, me.val)
theorem find_asking {P : Program} {kt : TypeId} {n : Nat} (ht : strStruct P kt = some n) {ι : Io} {key : V} {u : Value} (hr : RV ι key u) (w : World) : ∀ {m : List (V × V)} {es : List MapEntry} {res : Option Nat} (off : Nat), findE (n + 2) key m = some res → es.length = m.length →
    (∀ (i : Nat) k v, m[i]? = some (k, v) → ∃ me : MapEntry, es[i]? = some me ∧ RV ι k me.key) → ∃ r, (Instr.findAsking kt u es off).run P w = .ok r w ∧ Found es u off res r
  | [], [], res, off, h, hl, hm => by cases h; exact ⟨none, by simp [Instr.findAsking], rfl⟩
  | [], _ :: _, res, off, h, hl, hm => by simp at hl
  | _ :: _, [], res, off, h, hl, hm => by simp at hl
  | (k, v) :: m, e :: es, res, off, h, hl, hm => by
    obtain ⟨me, h1, h2⟩ := hm 0 k v rfl
    simp at h1
    subst h1
    have hm' : ∀ (i : Nat) k v, m[i]? = some (k, v) → ∃ me : MapEntry, es[i]? = some me ∧ RV ι k me.key := fun i k v h => hm (i + 1) k v (by simpa using h)
    have ke : ∀ r, keyEq (n + 2) key k = some r → (Op.equal kt u e.key).run P w = .ok r w ∧ (r = true → e.key = u) := fun r hk => by
      unfold keyEq at hk
      split at hk
      · rename_i heq; omega
      · rename_i heq; omega
      · rename_i n' cs ds heq
        have : n' = n := by omega
        subst this
        exact key_eq ht hk hr h2 w
      · cases hk
    rw [findE_cons] at h
    split at h
    · rename_i he
      cases h
      obtain ⟨r1, r2⟩ := ke _ he
      exact ⟨some (off, e.val), by simp [Instr.findAsking, r1], e, rfl, r2 rfl, rfl⟩
    · rename_i he
      obtain ⟨r1, _⟩ := ke _ he
      split at h
      · rename_i i hi
        cases h
        obtain ⟨r, r2, me, r3, r4, r5⟩ := find_asking ht hr w (off + 1) hi (by simpa using hl) hm'
        exact ⟨r, by simp [Instr.findAsking, r1, r2], me, by simpa using r3, r4, by rw [r5]; congr 2; omega⟩
      · rename_i r0 hne
        cases res with
        | none =>
          obtain ⟨r, r2, r3⟩ := find_asking ht hr w (off + 1) h (by simpa using hl) hm'
          exact ⟨r, by simp [Instr.findAsking, r1, r2], r3⟩
        | some i => exact absurd h (hne i)
    · cases h
theorem find_now {d : TypeDesc} {kind : Nat} {ι : Io} {key : V} {u : Value} (ke : ∀ k u' r, keyEq kind key k = some r → RV ι k u' → Instr.sameNow d u u' = some r ∧ (r = true → u' = u)) : ∀ {m : List (V × V)} {es : List MapEntry} {res : Option Nat} (off : Nat), findE kind key m = some res → es.length = m.length →
    (∀ (i : Nat) k v, m[i]? = some (k, v) → ∃ me : MapEntry, es[i]? = some me ∧ RV ι k me.key) → ∃ r, Instr.findNow d u es off = some r ∧ Found es u off res r
  | [], [], res, off, h, hl, hm => by cases h; exact ⟨none, rfl, rfl⟩
  | [], _ :: _, res, off, h, hl, hm => by simp at hl
  | _ :: _, [], res, off, h, hl, hm => by simp at hl
  | (k, v) :: m, e :: es, res, off, h, hl, hm => by
    obtain ⟨me, h1, h2⟩ := hm 0 k v rfl
    simp at h1
    subst h1
    have hm' : ∀ (i : Nat) k v, m[i]? = some (k, v) → ∃ me : MapEntry, es[i]? = some me ∧ RV ι k me.key := fun i k v h => hm (i + 1) k v (by simpa using h)
    rw [findE_cons] at h
    split at h
    · rename_i he
      cases h
      obtain ⟨r1, r2⟩ := ke _ _ _ he h2
      exact ⟨some (off, e.val), by simp [Instr.findNow, r1], e, rfl, r2 rfl, rfl⟩
    · rename_i he
      obtain ⟨r1, _⟩ := ke _ _ _ he h2
      split at h
      · rename_i i hi
        cases h
        obtain ⟨r, r2, me, r3, r4, r5⟩ := find_now ke (off + 1) hi (by simpa using hl) hm'
        exact ⟨r, by simp [Instr.findNow, r1, r2], me, by simpa using r3, r4, by rw [r5]; congr 2; omega⟩
      · rename_i r0 hne
        cases res with
        | none =>
          obtain ⟨r, r2, r3⟩ := find_now ke (off + 1) h (by simpa using hl) hm'
          exact ⟨r, by simp [Instr.findNow, r1, r2], r3⟩
        | some i => exact absurd h (hne i)
    · cases h
theorem key_find {P : Program} {kt : TypeId} {kind : Nat} (hk : KindOk P kt kind) {ι : Io} {key : V} {u : Value} (hr : RV ι key u) (w : World) {m : List (V × V)} {es : List MapEntry} {res : Option Nat} (h : findE kind key m = some res) (hl : es.length = m.length)
    (hm : ∀ (i : Nat) k v, m[i]? = some (k, v) → ∃ me : MapEntry, es[i]? = some me ∧ RV ι k me.key) : ∃ r, (Instr.findKey kt u es).run P w = .ok r w ∧ Found es u 0 res r := by
  match kind, hk with
  | 0, hk =>
    have hk : P.underlying kt = some .string := hk
    obtain ⟨r, h1, h2⟩ := find_now (d := .string) (u := u) (ι := ι) (key := key) (kind := 0) (fun k u' r he hr' => by
      unfold keyEq at he
      split at he
      · rename_i n1 a1 m1 b1 _
        obtain ⟨s, rfl, hs⟩ := hr
        obtain ⟨t, rfl, ht⟩ := hr'
        cases he
        have e : (s == t) = seq n1 a1 m1 b1 := by
          rw [← hs.1, ← hs.2, ← ht.1, ← ht.2, ← seq_spec]
          by_cases c : s = t
          · subst c; rw [(bytes_beq s s).2 rfl]; simp
          · have c2 : ¬ s.data.toList = t.data.toList := fun e => c (WideShapes.bytes_inj e)
            have : (s == t) = false := by cases hb : (s == t) with | false => rfl | true => exact absurd ((bytes_beq s t).1 hb) c
            have c3 : ¬ s.data = t.data := fun e => c2 (by rw [e])
            rw [this]; simp [c3]
        refine ⟨by simp [Instr.sameNow, e], fun ht' => ?_⟩
        rw [← e] at ht'
        rw [(bytes_beq s t).1 ht']
      · rename_i heq; cases heq
      · rename_i heq; cases heq
      · cases he) 0 h hl hm
    exact ⟨r, run_findKey hk h1, h2⟩
  | 1, hk =>
    obtain ⟨k0, hk⟩ := hk
    obtain ⟨r, h1, h2⟩ := find_now (d := .int k0) (u := u) (ι := ι) (key := key) (kind := 1) (fun k u' r he hr' => by
      unfold keyEq at he
      split at he
      · rename_i heq; cases heq
      · rename_i k1 a k2 b _
        have hr : u = _ := hr
        have hr' : u' = _ := hr'
        subst hr hr'
        cases hc : Nat.beq (ikN k1) (ikN k2) with
        | false => rw [hc] at he; cases he
        | true =>
          rw [hc] at he
          have := ikN_inj hc
          subst this
          simp only [cond_true, Option.some.injEq] at he
          rw [ieq_eq] at he
          subst he
          refine ⟨by simp [Instr.sameNow]; by_cases c : a = b <;> simp [c], fun ht => ?_⟩
          rw [of_decide_eq_true ht]
      · rename_i heq; cases heq
      · cases he) 0 h hl hm
    exact ⟨r, run_findKey hk h1, h2⟩
  | n + 2, hk =>
    have hk : strStruct P kt = some n := hk
    obtain ⟨r, h1, h2⟩ := find_asking hk hr w 0 h hl hm
    refine ⟨r, ?_, h2⟩
    have hw : (match P.underlying kt with | some (.array _ _) | some (.struct _) => true | _ => false) = true := by
      unfold strStruct at hk
      split at hk <;> try cases hk
      rename_i fs hu
      rw [hu]
    rw [run_findKey_eq w hw]; exact h1
structure MTab where
  get : TypeId → Option (TypeId × TypeId × Nat × Bool)
  fl : TypeId → Bool
  fd : TypeId → Nat → Option Nat
  pe : TypeId → Option TypeId
instance : CoeFun MTab (fun _ => TypeId → Option (TypeId × TypeId × Nat × Bool)) := ⟨MTab.get⟩
def zeroAgg (P : Program) (e : TypeId) : Option Bool :=
  match P.info? e with
  | some i => match i.zero with
    | some (.agg _) => some true
    | some _ => some false
    | none => none
  | none => none
def MTabOk (P : Program) (M : MTab) : Prop := ∀ t kt e kind g, M t = some (kt, e, kind, g) → P.underlying t = some (.map kt e) ∧ KindOk P kt kind ∧ zeroAgg P e = some g
noncomputable def zeroE (T : Tab) (e : TypeId) (g : Bool) : Option V :=
  match T.zd e, g with
  | some zs, true => some (.ag (zeroV zs))
  | some [z], false => some (zV z)
  | _, _ => none
theorem zeroE_ok {P : Program} {T : Tab} (hT : TabOk P T) {e : TypeId} {g : Bool} (hg : zeroAgg P e = some g) {z : V} (hz : zeroE T e g = some z) : ∃ u, (∀ w, (zeroValue e).run P w = .ok u w) ∧ ∀ ι, RV ι z u := by
  unfold zeroE at hz
  unfold zeroAgg at hg
  split at hz
  · rename_i zs hzd
    cases hz
    obtain ⟨i, zv, hi, hz', hrz⟩ := zeroD_spec (hT.zd _ _ hzd)
    rw [hi] at hg
    simp only [hz'] at hg
    split at hg
    · rename_i cs hcs
      cases hcs
      exact ⟨.agg cs, fun w => by simp [zeroValue, typeInfo, hi, hz'], fun ι => ⟨cs.toList, by simp, by simpa [Value.cells] using zeroV_ok (ι := ι) hrz⟩⟩
    · cases hg
    · cases hg
  · rename_i zd hzd
    cases hz
    obtain ⟨i, zv, hi, hz', hrz⟩ := zeroD_spec (hT.zd _ _ hzd)
    rw [hi] at hg
    simp only [hz'] at hg
    split at hg
    · cases hg
    · rename_i x v hne hv
      cases hv
      have hc : zv.cells = #[zv] := by cases zv <;> first | rfl | (exact absurd rfl (hne _))
      refine ⟨zv, fun w => by simp [zeroValue, typeInfo, hi, hz'], fun ι => ?_⟩
      have := (hrz ⟨fun _ _ => none, fun _ => none⟩)
      rw [hc] at this
      exact zV_ok (this.2 0 zv zd rfl rfl)
    · cases hg
  · cases hz
theorem keyEq_s (n a m b : Nat) : keyEq 0 (.s n a) (.s m b) = some (seq n a m b) := rfl
theorem seq_iff {n a m b : Nat} : seq n a m b = true ↔ n = m ∧ a = b := by
  unfold seq
  rw [beq_eq, beq_eq]
  by_cases h1 : n = m <;> by_cases h2 : a = b <;> simp [h1, h2]
theorem find_text {n a : Nat} : ∀ {m : List (V × V)}, (∀ p ∈ m, ∃ n a, p.1 = .s n a) → ∃ r, findE 0 (.s n a) m = some r ∧ (r = none → ∀ p ∈ m, p.1 ≠ .s n a) ∧ ∀ i, r = some i → ∃ p, m[i]? = some p ∧ p.1 = .s n a
  | [], _ => ⟨none, rfl, fun _ p hp => (by cases hp), fun i hi => by cases hi⟩
  | p :: m, h => by
    obtain ⟨m1, b1, hp⟩ := h p (by simp)
    obtain ⟨r, h1, h2, h3⟩ := find_text (n := n) (a := a) (m := m) fun q hq => h q (by simp [hq])
    rw [findE_cons, hp, keyEq_s]
    cases hc : seq n a m1 b1 with
    | true =>
      obtain ⟨e1, e2⟩ := seq_iff.1 hc
      exact ⟨some 0, rfl, fun e => by (cases e), fun i hi => by cases hi; exact ⟨p, rfl, by rw [hp, e1, e2]⟩⟩
    | false =>
      have hne : p.1 ≠ .s n a := fun e => by
        rw [hp] at e; cases e
        rw [seq_iff.2 ⟨rfl, rfl⟩] at hc; cases hc
      cases r with
      | none =>
        refine ⟨none, by simp only [h1], fun _ q hq => ?_, fun i hi => by cases hi⟩
        rcases List.mem_cons.1 hq with e | e
        · rw [e]; exact hne
        · exact h2 rfl q e
      | some i =>
        obtain ⟨q, q1, q2⟩ := h3 i rfl
        exact ⟨some (i + 1), by simp only [h1], fun e => by (cases e), fun j hj => by cases hj; exact ⟨q, by simpa using q1, q2⟩⟩
theorem find_perm {n a : Nat} {es : List (V × V)} (hd : Dist es) {js : List Nat} (hj : ∀ (q j : Nat), js[q]? = some j → ∃ p, es[j]? = some p) (hs : ∀ j, j < es.length → j ∈ js) {r : Option Nat} (h : findE 0 (.s n a) es = some r) :
    ∃ r', findE 0 (.s n a) (js.map fun j => es.getD j (.j, .j)) = some r' ∧ (r = none → r' = none) ∧ ∀ i, r = some i → ∃ q, r' = some q ∧ js[q]? = some i := by
  obtain ⟨r0, e0, n0, s0⟩ := find_text (n := n) (a := a) hd.text
  rw [h] at e0; cases e0
  have hm : ∀ p ∈ js.map fun j => es.getD j (.j, .j), p ∈ es := fun p hp => by
    obtain ⟨j, h1, rfl⟩ := List.mem_map.1 hp
    obtain ⟨q, h2⟩ := List.getElem?_of_mem h1
    obtain ⟨p, h3⟩ := hj q j h2
    rw [List.getD_eq_getElem?_getD, h3]
    exact List.mem_of_getElem? h3
  obtain ⟨r', e1, n1, s1⟩ := find_text (n := n) (a := a) (m := js.map fun j => es.getD j (.j, .j)) fun p hp => hd.text p (hm p hp)
  refine ⟨r', e1, fun hr => ?_, fun i hi => ?_⟩
  · cases r' with
    | none => rfl
    | some q =>
      obtain ⟨p, h1, h2⟩ := s1 q rfl
      exact absurd h2 (n0 hr p (hm p (List.mem_of_getElem? h1)))
  · subst hi
    obtain ⟨p, h1, h2⟩ := s0 i rfl
    have hil : i < es.length := (List.getElem?_eq_some_iff.1 h1).1
    cases r' with
    | none =>
      refine absurd h2 (n1 rfl p ?_)
      exact List.mem_map.2 ⟨i, hs i hil, by rw [List.getD_eq_getElem?_getD, h1]; rfl⟩
    | some q =>
      obtain ⟨p', h3, h4⟩ := s1 q rfl
      rw [List.getElem?_map] at h3
      cases hq : js[q]? with
      | none => rw [hq] at h3; cases h3
      | some j =>
        rw [hq] at h3
        obtain ⟨p2, h5⟩ := hj q j hq
        have e : p2 = p' := by
          have h3 : es.getD j (.j, .j) = p' := Option.some.inj h3
          rw [List.getD_eq_getElem?_getD, h5] at h3; exact h3
        have := hd.one i j p p2 h1 h5 (by rw [h2, e, h4])
        exact ⟨q, rfl, by rw [this]; exact hq⟩
noncomputable def evMkMap (h : H) (n : Id) (k : KV) : R := match nxt n with | some n' => k (.mp n) (hset (.mp []) n h) n' | none => none
noncomputable def evLook (T : Tab) (M : MTab) (t : TypeId) (x key : V) (ok : Bool) (h : H) (kk : KP) : R :=
  match M t with
  | some (_, e, kind, g) => cond (keyOk kind key) (match zeroE T e g with
    | some z => (match x with
      | .nm => kk (cond ok (.tp [z, .b false]) z)
      | .mp o => (match hget o h with
        | some (.mp es) => (match findE kind key es with
          | some none => kk (cond ok (.tp [z, .b false]) z)
          | some (some i) => (match getL i es with | some p => kk (cond ok (.tp [p.2, .b true]) p.2) | none => none)
          | none => none)
        | some (.lm es) => (match kind with
          | 0 => (match findE 0 key es with
            | some none => kk (cond ok (.tp [z, .b false]) z)
            | some (some i) => (match getL i es with | some p => kk (cond ok (.tp [p.2, .b true]) p.2) | none => none)
            | none => none)
          | _ => none)
        | _ => none)
      | _ => none)
    | none => none) none
  | none => none
noncomputable def evMapUpd (M : MTab) (t : TypeId) (x key v : V) (h : H) (n : Id) (k : KV) : R :=
  match M t with
  | some (_, _, kind, _) => cond (keyOk kind key) (match x with
    | .mp o => (match hget o h with
      | some (.mp es) => (match findE kind key es with
        | some none => k .j (hset (.mp (appL es [(key, v)])) o h) n
        | some (some i) => k .j (hset (.mp (setL (key, v) i es)) o h) n
        | none => none)
      | _ => none)
    | _ => none) none
  | none => none
noncomputable def evMapEnt (T : Tab) (M : MTab) (t : TypeId) (x key : V) (h : H) (n : Id) (k : KV) : R :=
  match M t with
  | some (_, e, kind, g) => cond (keyOk kind key) (match zeroE T e g with
    | some z => (match x with
      | .mp o => (match hget o h with
        | some (.mp es) => (match findE kind key es with
          | some none => fN (lenL es) fun l => k (.tp [z, .i .i64 (.ofNat l)]) (hset (.mp (appL es [(key, z)])) o h) n
          | some (some i) => (match getL i es with | some p => fN i fun i => k (.tp [p.2, .i .i64 (.ofNat i)]) (hset (.mp (setL (key, p.2) i es)) o h) n | none => none)
          | none => none)
        | _ => none)
      | _ => none)
    | none => none) none
  | none => none
noncomputable def evEntSt (x st v : V) (h : H) (n : Id) (k : KV) : R :=
  match x, st with
  | .mp o, .i _ (.ofNat i) => (match hget o h with
    | some (.mp es) => (match getL i es with | some p => k .j (hset (.mp (setL (p.1, v) i es)) o h) n | none => none)
    | _ => none)
  | _, _ => none
section
variable {P : Program} {T : Tab} (hT : TabOk P T) {M : MTab} (hM : MTabOk P M) {E : Operand → V} {h : H} {n : Id} {k : KV}
theorem mkMap_ok (t : TypeId) : Ob P (.makeMap t none) E h n k (evMkMap h n k) := by
  unfold evMkMap
  split
  · rename_i n' hn
    refine ob_mk fun o ho w0 ι ρ w hb hρ => ?_
    have : (execOp ρ o).run P w = .ok (.value (.map (some w.heap.size))) (w.alloc (.map #[] 0)) := by
      simp [execOp, ho, run_makeMap, Result.andThen]
    rw [this]
    exact ⟨_, hb.ext ⟨w.heap.size, 0, 0⟩, hb.alloc hn (World.grownBy_alloc w _ none) (Nat.le_refl _) _ _ rfl (by simp) ⟨#[], 0, (MapKept.heap_alloc w _).1, rfl, rfl, fun i k v h => by simp at h⟩, ⟨w.heap.size, 0, 0⟩, upI_same _ _ _, rfl⟩
  · exact ob_none
theorem RV_two {ι : Io} {x y : V} {u v : Value} (h1 : RV ι x u) (h2 : RV ι y v) : RV ι (.tp [x, y]) (.tuple #[u, v]) := ⟨[u, v], rfl, _, _, rfl, h1, _, _, rfl, h2, rfl⟩
include hT hM in
theorem look_ok (t : TypeId) (x i : Operand) (ok : Bool) : Ob P (.lookup t x i ok) E h n k (evLook T M t (E x) (E i) ok h fun v => k v h n) := by
  unfold evLook
  split
  · rename_i kt e kind g hm
    obtain ⟨ut, hk, hg⟩ := hM _ _ _ _ _ hm
    refine ob_cond fun hok => ?_
    split
    · rename_i z hz
      obtain ⟨zu, hzr, hzv⟩ := zeroE_ok hT hg hz
      have fin : ∀ (ι : Io) (v : V) (u : Value) (b : Bool), RV ι v u → RV ι (cond ok (.tp [v, .b b]) v) (if ok then .tuple #[u, .bool b] else u) := fun ι v u b h => by
        cases ok
        · exact h
        · exact RV_two h rfl
      split
      · rename_i hx
        refine ob_mk (xop_pure fun o ho w0 ι ρ w hb hρ => ?_)
        have h1 := hρ x (by simp [Op.operands])
        have h2 := hρ i (by simp [Op.operands])
        rw [hx] at h1
        have h1 : ρ x = _ := h1
        obtain ⟨c1, _⟩ := key_check hk hok h2 w true
        obtain ⟨r, f1, f2⟩ := key_find hk h2 w (m := []) (es := []) (res := none) rfl rfl (fun i k v h => by simp at h)
        have f2 : r = none := f2
        subst f2
        refine ⟨_, ?_, fin ι z zu false (hzv ι)⟩
        simp [execOp, ho, h1, Instr.lookup, run_underlying ut, c1, f1, hzr]
      · rename_i o' hx
        split
        · rename_i es hget
          split
          · rename_i hf
            refine ob_mk (xop_pure fun o ho w0 ι ρ w hb hρ => ?_)
            have h1 := hρ x (by simp [Op.operands])
            have h2 := hρ i (by simp [Op.operands])
            rw [hx] at h1
            obtain ⟨pl, e1, h1⟩ := h1
            obtain ⟨entries, clock, g1, g2, g3, g4⟩ := hb.obj _ _ _ e1 hget
            obtain ⟨c1, _⟩ := key_check hk hok h2 w entries.isEmpty
            obtain ⟨r, f1, f2⟩ := key_find hk h2 w (es := entries.toList) hf (by simpa using g2) (fun i k v h => by obtain ⟨me, a, b, _⟩ := g4 i k v h; exact ⟨me, by simpa using a, b⟩)
            have f2 : r = none := f2
            subst f2
            refine ⟨_, ?_, fin ι z zu false (hzv ι)⟩
            simp [execOp, ho, h1, Instr.lookup, run_underlying ut, Go.MapKept.run_getObj_map g1, c1, f1, Result.andThen, hzr]
          · rename_i j hf
            rw [getL_eq]
            split
            · rename_i p hp
              refine ob_mk (xop_pure fun o ho w0 ι ρ w hb hρ => ?_)
              have h1 := hρ x (by simp [Op.operands])
              have h2 := hρ i (by simp [Op.operands])
              rw [hx] at h1
              obtain ⟨pl, e1, h1⟩ := h1
              obtain ⟨entries, clock, g1, g2, g3, g4⟩ := hb.obj _ _ _ e1 hget
              obtain ⟨c1, _⟩ := key_check hk hok h2 w entries.isEmpty
              obtain ⟨r, f1, me, f2, f3, f4⟩ := key_find hk h2 w (es := entries.toList) hf (by simpa using g2) (fun i k v h => by obtain ⟨me, a, b, _⟩ := g4 i k v h; exact ⟨me, by simpa using a, b⟩)
              subst f4
              obtain ⟨me', m1, m2, m3, m4⟩ := g4 j p.1 p.2 hp
              rw [Array.getElem?_toList] at f2
              rw [f2] at m1; cases m1
              refine ⟨_, ?_, fin ι p.2 me.val true m3⟩
              simp [execOp, ho, h1, Instr.lookup, run_underlying ut, Go.MapKept.run_getObj_map g1, c1, f1, Result.andThen]
            · exact ob_none
          · exact ob_none
        · rename_i es hget
          split
          ·
            obtain ⟨kn, ka, hkey⟩ : ∃ kn ka, E i = .s kn ka := by
              cases hE : E i <;> rw [hE] at hok <;> first | (exact ⟨_, _, rfl⟩) | cases hok
            have un : ∀ {ι : Io} {w : World} {pl : Pl}, OOk ι w pl (.lm es) → ∀ r, findE 0 (E i) es = some r → ∃ (entries : Array MapEntry) (clock : Nat) (js : List Nat) (r' : Option Nat), w.heap[pl.b]? = some (.map entries clock) ∧ entries.toList.length = (js.map fun j => es.getD j (.j, .j)).length ∧
                (∀ (q : Nat) k v, (js.map fun j => es.getD j (.j, .j))[q]? = some (k, v) → ∃ me : MapEntry, entries.toList[q]? = some me ∧ RV ι k me.key) ∧ findE 0 (E i) (js.map fun j => es.getD j (.j, .j)) = some r' ∧ (r = none → r' = none) ∧
                ∀ j p, r = some j → es[j]? = some p → ∃ q me, r' = some q ∧ entries.toList[q]? = some me ∧ RV ι p.2 me.val := by
              rintro ι w pl ⟨hd, js, entries, g1, g2, g5, g4⟩ r hr
              rw [hkey] at hr ⊢
              obtain ⟨r', e1, e2, e3⟩ := find_perm hd (fun q j h => let ⟨p, _, a, _⟩ := g4 q j h; ⟨p, a⟩) g5 hr
              refine ⟨entries, _, js, r', g1, by simp [g2], fun q k v hq => ?_, e1, e2, fun j p hj hp => ?_⟩
              · rw [List.getElem?_map] at hq
                cases hjq : js[q]? with
                | none => rw [hjq] at hq; cases hq
                | some j =>
                  rw [hjq] at hq
                  obtain ⟨p, me, a, b, c, d⟩ := g4 q j hjq
                  have hq := Option.some.inj hq
                  simp only [List.getD_eq_getElem?_getD, a, Option.getD_some] at hq
                  subst hq
                  exact ⟨me, by simpa using b, c⟩
              · obtain ⟨q, h1, h2⟩ := e3 j hj
                obtain ⟨p', me, a, b, c, d⟩ := g4 q j h2
                rw [hp] at a; cases a
                exact ⟨q, me, h1, by simpa using b, d⟩
            split
            · rename_i hf
              refine ob_mk (xop_pure fun o ho w0 ι ρ w hb hρ => ?_)
              have h1 := hρ x (by simp [Op.operands])
              have h2 := hρ i (by simp [Op.operands])
              rw [hx] at h1
              obtain ⟨pl, e1, h1⟩ := h1
              obtain ⟨entries, clock, js, r', g1, g2, g4, g5, g6, _⟩ := un (hb.obj _ _ _ e1 hget) _ hf
              have g6 := g6 rfl
              subst g6
              obtain ⟨c1, _⟩ := key_check hk hok h2 w entries.isEmpty
              obtain ⟨r, f1, f2⟩ := key_find hk h2 w (es := entries.toList) g5 g2 g4
              have f2 : r = none := f2
              subst f2
              refine ⟨_, ?_, fin ι z zu false (hzv ι)⟩
              simp [execOp, ho, h1, Instr.lookup, run_underlying ut, Go.MapKept.run_getObj_map g1, c1, f1, Result.andThen, hzr]
            · rename_i j hf
              rw [getL_eq]
              split
              · rename_i p hp
                refine ob_mk (xop_pure fun o ho w0 ι ρ w hb hρ => ?_)
                have h1 := hρ x (by simp [Op.operands])
                have h2 := hρ i (by simp [Op.operands])
                rw [hx] at h1
                obtain ⟨pl, e1, h1⟩ := h1
                obtain ⟨entries, clock, js, r', g1, g2, g4, g5, _, g7⟩ := un (hb.obj _ _ _ e1 hget) _ hf
                obtain ⟨q, me, q1, q2, q3⟩ := g7 j p rfl hp
                subst q1
                obtain ⟨c1, _⟩ := key_check hk hok h2 w entries.isEmpty
                obtain ⟨r, f1, me', f2, f3, f4⟩ := key_find hk h2 w (es := entries.toList) g5 g2 g4
                rw [q2] at f2; cases f2
                subst f4
                refine ⟨_, ?_, fin ι p.2 me.val true q3⟩
                simp [execOp, ho, h1, Instr.lookup, run_underlying ut, Go.MapKept.run_getObj_map g1, c1, f1, Result.andThen]
              · exact ob_none
            · exact ob_none
          · exact ob_none
        · exact ob_none
      · exact ob_none
    · exact ob_none
  · exact ob_none
theorem map_set {w0 : Fx} {ι : Io} {w : World} (hb : HR w0 ι h n w) {o : Id} {es : List (V × V)} (hget : hget o h = some (.mp es)) {pl : Pl} (e1 : ι o = some pl) {entries0 : Array MapEntry} {clock0 : Nat} (g1 : w.heap[pl.b]? = some (.map entries0 clock0))
    (entries : Array MapEntry) (es' : List (V × V)) (hl : entries.size = es'.length) (he : ∀ (i : Nat) k v, es'[i]? = some (k, v) → ∃ me : MapEntry, entries[i]? = some me ∧ RV ι k me.key ∧ RV ι v me.val ∧ me.born = i) :
    HR w0 ι (hset (.mp es') o h) n { w with heap := w.heap.setIfInBounds pl.b (.map entries entries.size) } := by
  have hlt : pl.b < w.heap.size := (Array.getElem?_eq_some_iff.1 g1).1
  exact hb.turn (w' := { w with heap := w.heap.setIfInBounds pl.b (.map entries entries.size) }) e1 ⟨_, hget, by intro e; cases e⟩ ⟨rfl, rfl, rfl, by simp, fun j _ hj => by
      have hne : pl.b ≠ j := fun hh => hj (by rw [hh])
      simp [hne]⟩ (Nat.le_refl _) (.mp es') ⟨entries, entries.size, by simp [hlt], hl, rfl, he⟩
include hM in
theorem mapUpd_ok (op : Op) (t : TypeId) (x i y : Operand) (hop : op = .insert t x i y ∨ op = .mapUpdate t x i y) : Ob P op E h n k (evMapUpd M t (E x) (E i) (E y) h n k) := by
  have mx : x ∈ op.operands := by rcases hop with rfl | rfl <;> simp [Op.operands]
  have mi : i ∈ op.operands := by rcases hop with rfl | rfl <;> simp [Op.operands]
  have my : y ∈ op.operands := by rcases hop with rfl | rfl <;> simp [Op.operands]
  have ex : ∀ {o : Oper} (ho : o.op = op) (ρ : Operand → Value) (w w' : World), (Instr.mapUpdate t (ρ x) (ρ i) (ρ y)).run P w = .ok () w' → (execOp ρ o).run P w = .ok .skip w' := fun {o} ho ρ w w' hr => by
    rcases hop with e | e <;> rw [e] at ho <;> simp [execOp, ho, hr]
  unfold evMapUpd
  split
  · rename_i kt e kind g hm
    obtain ⟨ut, hk, hg⟩ := hM _ _ _ _ _ hm
    refine ob_cond fun hok => ?_
    split
    · rename_i o' hx
      split
      · rename_i es hget
        split
        · rename_i hf
          rw [appL_eq]
          refine ob_mk fun o ho w0 ι ρ w hb hρ => ?_
          have h1 := hρ x mx
          have h2 := hρ i mi
          have h3 := hρ y my
          rw [hx] at h1
          obtain ⟨pl, e1, h1⟩ := h1
          obtain ⟨entries, clock, g1, g2, g3, g4⟩ := hb.obj _ _ _ e1 hget
          obtain ⟨c1, c2⟩ := key_check hk hok h2 w false
          obtain ⟨r, f1, f2⟩ := key_find hk h2 w (es := entries.toList) hf (by simpa using g2) (fun i k v h => by obtain ⟨me, a, b, _⟩ := g4 i k v h; exact ⟨me, by simpa using a, b⟩)
          have f2 : r = none := f2
          subst f2 g3
          rw [ex ho ρ w { w with heap := w.heap.setIfInBounds pl.b (.map (entries.push { key := ρ i, val := ρ y, born := entries.size }) (entries.push { key := ρ i, val := ρ y, born := entries.size }).size) }
            (by simp [h1, Instr.mapUpdate, run_underlying ut, Go.MapKept.run_getObj_map g1, c1, f1, Result.andThen, Go.MapKept.run_setObj_map _ g1])]
          refine ⟨rfl, ι, Ext.refl _, map_set hb hget e1 g1 _ _ (by simp [g2]) fun j k v hj => ?_⟩
          rw [List.getElem?_append] at hj
          split at hj
          · obtain ⟨me, m1, m2, m3, m4⟩ := g4 j k v hj
            have : j < entries.size := (Array.getElem?_eq_some_iff.1 m1).1
            exact ⟨me, by rw [Array.getElem?_push, if_neg (by omega)]; exact m1, m2, m3, m4⟩
          · rename_i hge
            have hj0 : j = es.length := by
              have := (List.getElem?_eq_some_iff.1 hj).1
              simp at this; omega
            subst hj0
            simp at hj
            obtain ⟨rfl, rfl⟩ := hj
            exact ⟨_, by rw [Array.getElem?_push, if_pos g2.symm], h2, h3, g2⟩
        · rename_i j hf
          rw [setL_eq]
          refine ob_mk fun o ho w0 ι ρ w hb hρ => ?_
          have h1 := hρ x mx
          have h2 := hρ i mi
          have h3 := hρ y my
          rw [hx] at h1
          obtain ⟨pl, e1, h1⟩ := h1
          obtain ⟨entries, clock, g1, g2, g3, g4⟩ := hb.obj _ _ _ e1 hget
          obtain ⟨c1, c2⟩ := key_check hk hok h2 w false
          obtain ⟨r, f1, me, f2, f3, f4⟩ := key_find hk h2 w (es := entries.toList) hf (by simpa using g2) (fun i k v h => by obtain ⟨me, a, b, _⟩ := g4 i k v h; exact ⟨me, by simpa using a, b⟩)
          subst f4 g3
          rw [Array.getElem?_toList] at f2
          rw [ex ho ρ w { w with heap := w.heap.setIfInBounds pl.b (.map (entries.modify j fun e => { e with key := ρ i, val := ρ y }) (entries.modify j fun e => { e with key := ρ i, val := ρ y }).size) }
            (by simp [h1, Instr.mapUpdate, run_underlying ut, Go.MapKept.run_getObj_map g1, c1, f1, f2, f3, c2, Result.andThen, Go.MapKept.run_setObj_map _ g1])]
          refine ⟨rfl, ι, Ext.refl _, map_set hb hget e1 g1 _ _ (by simp [g2]) fun l k v hj => ?_⟩
          by_cases hij : j = l
          · subst hij
            rw [List.getElem?_set, if_pos rfl] at hj
            split at hj
            · cases hj
              have hb2 : me.born = j := by
                have hlt : j < es.length := by assumption
                obtain ⟨me', m1, _, _, m4⟩ := g4 j es[j].1 es[j].2 (by simp [hlt])
                rw [f2] at m1; cases m1; exact m4
              exact ⟨{ me with key := ρ i, val := ρ y }, by rw [Array.getElem?_modify, if_pos rfl, f2]; rfl, h2, h3, hb2⟩
            · cases hj
          · rw [List.getElem?_set, if_neg hij] at hj
            obtain ⟨me', m1, m2⟩ := g4 l k v hj
            exact ⟨me', by rw [Array.getElem?_modify, if_neg hij]; exact m1, m2⟩
        · exact ob_none
      · exact ob_none
    · exact ob_none
  · exact ob_none
include hT hM in
theorem mapEnt_ok (t : TypeId) (x i : Operand) : Ob P (.mapEntry t x i) E h n k (evMapEnt T M t (E x) (E i) h n k) := by
  unfold evMapEnt
  split
  · rename_i kt e kind g hm
    obtain ⟨ut, hk, hg⟩ := hM _ _ _ _ _ hm
    refine ob_cond fun hok => ?_
    split
    · rename_i z hz
      obtain ⟨zu, hzr, hzv⟩ := zeroE_ok hT hg hz
      split
      · rename_i o' hx
        split
        · rename_i es hget
          split
          · rename_i hf
            rw [appL_eq, lenL_eq, fN_eq]
            refine ob_mk fun o ho w0 ι ρ w hb hρ => ?_
            have h1 := hρ x (by simp [Op.operands])
            have h2 := hρ i (by simp [Op.operands])
            rw [hx] at h1
            obtain ⟨pl, e1, h1⟩ := h1
            obtain ⟨entries, clock, g1, g2, g3, g4⟩ := hb.obj _ _ _ e1 hget
            obtain ⟨c1, c2⟩ := key_check hk hok h2 w false
            obtain ⟨r, f1, f2⟩ := key_find hk h2 w (es := entries.toList) hf (by simpa using g2) (fun i k v h => by obtain ⟨me, a, b, _⟩ := g4 i k v h; exact ⟨me, by simpa using a, b⟩)
            have f2 : r = none := f2
            subst f2 g3
            have hrun : (execOp ρ o).run P w = .ok (.value (.tuple #[zu, .int .i64 entries.size])) { w with heap := w.heap.setIfInBounds pl.b (.map (entries.push { key := ρ i, val := zu, born := entries.size }) (entries.push { key := ρ i, val := zu, born := entries.size }).size) } := by
              simp [execOp, ho, h1, Instr.mapEntry, run_underlying ut, Go.MapKept.run_getObj_map g1, c1, f1, Result.andThen, hzr, Go.MapKept.run_setObj_map _ g1, goInt]
            rw [hrun]
            refine ⟨ι, Ext.refl _, map_set hb hget e1 g1 _ _ (by simp [g2]) fun j k v hj => ?_, RV_two (hzv ι) (by rw [← g2]; rfl)⟩
            rw [List.getElem?_append] at hj
            split at hj
            · obtain ⟨me, m1, m2, m3, m4⟩ := g4 j k v hj
              have : j < entries.size := (Array.getElem?_eq_some_iff.1 m1).1
              exact ⟨me, by rw [Array.getElem?_push, if_neg (by omega)]; exact m1, m2, m3, m4⟩
            · rename_i hge
              have hj0 : j = es.length := by
                have := (List.getElem?_eq_some_iff.1 hj).1
                simp at this; omega
              subst hj0
              simp at hj
              obtain ⟨rfl, rfl⟩ := hj
              exact ⟨_, by rw [Array.getElem?_push, if_pos g2.symm], h2, hzv ι, g2⟩
          · rename_i j hf
            rw [getL_eq]
            split
            · rename_i p hp
              rw [fN_eq, setL_eq]
              refine ob_mk fun o ho w0 ι ρ w hb hρ => ?_
              have h1 := hρ x (by simp [Op.operands])
              have h2 := hρ i (by simp [Op.operands])
              rw [hx] at h1
              obtain ⟨pl, e1, h1⟩ := h1
              obtain ⟨entries, clock, g1, g2, g3, g4⟩ := hb.obj _ _ _ e1 hget
              obtain ⟨c1, c2⟩ := key_check hk hok h2 w false
              obtain ⟨r, f1, me, f2, f3, f4⟩ := key_find hk h2 w (es := entries.toList) hf (by simpa using g2) (fun i k v h => by obtain ⟨me, a, b, _⟩ := g4 i k v h; exact ⟨me, by simpa using a, b⟩)
              subst f4 g3
              rw [Array.getElem?_toList] at f2
              obtain ⟨me', m1, m2, m3, m4⟩ := g4 j p.1 p.2 hp
              rw [f2] at m1; cases m1
              have hrun : (execOp ρ o).run P w = .ok (.value (.tuple #[me.val, .int .i64 me.born])) { w with heap := w.heap.setIfInBounds pl.b (.map (entries.modify j fun e => { e with key := ρ i }) (entries.modify j fun e => { e with key := ρ i }).size) } := by
                simp [execOp, ho, h1, Instr.mapEntry, run_underlying ut, Go.MapKept.run_getObj_map g1, c1, f1, f2, f3, c2, Result.andThen, Go.MapKept.run_setObj_map _ g1, goInt]
              rw [hrun]
              refine ⟨ι, Ext.refl _, map_set hb hget e1 g1 _ _ (by simp [g2]) fun l k v hj => ?_, RV_two m3 (by rw [m4]; rfl)⟩
              by_cases hij : j = l
              · subst hij
                rw [List.getElem?_set, if_pos rfl] at hj
                split at hj
                · cases hj
                  exact ⟨{ me with key := ρ i }, by rw [Array.getElem?_modify, if_pos rfl, f2]; rfl, h2, m3, m4⟩
                · cases hj
              · rw [List.getElem?_set, if_neg hij] at hj
                obtain ⟨me', m1, m2⟩ := g4 l k v hj
                exact ⟨me', by rw [Array.getElem?_modify, if_neg hij]; exact m1, m2⟩
            · exact ob_none
          · exact ob_none
        · exact ob_none
      · exact ob_none
    · exact ob_none
  · exact ob_none
theorem entSt_ok (t : TypeId) (x i y : Operand) : Ob P (.entryStore t x i y) E h n k (evEntSt (E x) (E i) (E y) h n k) := by
  unfold evEntSt
  split
  · rename_i o' ki j hx hi
    split
    · rename_i es hget
      rw [getL_eq]
      split
      · rename_i p hp
        rw [setL_eq]
        refine ob_mk fun o ho w0 ι ρ w hb hρ => ?_
        have h1 := hρ x (by simp [Op.operands])
        have h2 := hρ i (by simp [Op.operands])
        have h3 := hρ y (by simp [Op.operands])
        rw [hx] at h1
        rw [hi] at h2
        have h2 : ρ i = .int ki (j : Int) := h2
        obtain ⟨pl, e1, h1⟩ := h1
        obtain ⟨entries, clock, g1, g2, g3, g4⟩ := hb.obj _ _ _ e1 hget
        subst g3
        obtain ⟨me, m1, m2, m3, m4⟩ := g4 j p.1 p.2 hp
        have hjl : j < entries.size := (Array.getElem?_eq_some_iff.1 m1).1
        have hfi : entries.findIdx? (fun e => (e.born : Int) == (j : Int)) = some j := by
          rw [Array.findIdx?_eq_some_iff_getElem]
          have hb1 : ∀ i (h : i < entries.size), entries[i].born = i := fun i hlt => by
            have hi2 : i < es.length := by omega
            obtain ⟨me', q1, _, _, q4⟩ := g4 i es[i].1 es[i].2 (by simp [hi2])
            rw [Array.getElem?_eq_getElem hlt] at q1; cases q1; exact q4
          refine ⟨hjl, by simp [hb1 j hjl], fun i hi => ?_⟩
          have := hb1 i (by omega)
          simp [this]
          omega
        have hrun : (execOp ρ o).run P w = .ok .skip { w with heap := w.heap.setIfInBounds pl.b (.map (entries.modify j fun e => { e with val := ρ y }) (entries.modify j fun e => { e with val := ρ y }).size) } := by
          simp [execOp, ho, h1, h2, Instr.entryStore, Go.MapKept.run_getObj_map g1, asInt, asIntOf, hfi, Result.andThen, Go.MapKept.run_setObj_map _ g1]
        rw [hrun]
        refine ⟨rfl, ι, Ext.refl _, map_set hb hget e1 g1 _ _ (by simp [g2]) fun l k v hj => ?_⟩
        by_cases hij : j = l
        · subst hij
          rw [List.getElem?_set, if_pos rfl] at hj
          split at hj
          · cases hj
            exact ⟨{ me with val := ρ y }, by rw [Array.getElem?_modify, if_pos rfl, m1]; rfl, m2, h3, m4⟩
          · cases hj
        · rw [List.getElem?_set, if_neg hij] at hj
          obtain ⟨me', q1, q2⟩ := g4 l k v hj
          exact ⟨me', by rw [Array.getElem?_modify, if_neg hij]; exact q1, q2⟩
      · exact ob_none
    · exact ob_none
  · exact ob_none
end
end Go.Proofs.Nw.X
end
section
/- XA: more operations: shifts, floats, the same pointer twice, fields of structs, new slices, clear, copy, cap, texts out of bytes without a copy. -/
open Go Go.RowKit
namespace Go.Proofs.Nw.X
open Go.Proofs.Nw.K
noncomputable def eqLs {α : Type} (e : α → α → Bool) (x : List α) : List α → Bool :=
  List.rec (motive := fun _ => List α → Bool) (fun y => List.casesOn y true fun _ _ => false) (fun a _ ih y => List.casesOn y false fun b r => cond (e a b) (ih r) false) x
theorem eqLs_ok {α : Type} {e : α → α → Bool} : ∀ {x y : List α}, (∀ a ∈ x, ∀ b, e a b = true → a = b) → eqLs e x y = true → x = y
  | [], [], _, _ => rfl
  | [], b :: r, _, h => by cases h
  | a :: x, [], _, h => by cases h
  | a :: x, b :: r, he, h => by
    have h : cond (e a b) (eqLs e x r) false = true := h
    cases hc : e a b with
    | false => rw [hc] at h; cases h
    | true =>
      rw [hc] at h
      rw [he a (by simp) b hc, eqLs_ok (fun a ha => he a (by simp [ha])) h]
noncomputable def qN (q : Q) : Nat := Q.casesOn q 0 1 2 3
noncomputable def eqQ (a b : Q) : Bool := Nat.beq (qN a) (qN b)
theorem eqQ_ok {a b : Q} (h : eqQ a b = true) : a = b := by
  have := Nat.eq_of_beq_eq_true h
  cases a <;> cases b <;> first | rfl | (exact absurd this (by decide))
noncomputable def eqId : Id → Id → Bool := eqLs eqQ
theorem eqId_ok {a b : Id} (h : eqId a b = true) : a = b := eqLs_ok (fun _ _ _ => eqQ_ok) h
theorem cond_and {a b : Bool} (h : cond a b false = true) : a = true ∧ b = true := by cases a <;> simp_all
theorem nbeq {a b : Nat} (h : Nat.beq a b = true) : a = b := Nat.eq_of_beq_eq_true h
def FlOk (P : Program) (M : MTab) : Prop := (∀ t, M.fl t = true → P.underlying t = some (.float .f64)) ∧
  (∀ s f k, M.fd s f = some k → ∀ (cs : Array Value) (v : Value) (w : World), cs[k]? = some v → (Instr.field s (.agg cs) f).run P w = .ok v w) ∧
  ∀ t e, M.pe t = some e → P.underlying t = some (.pointer e) ∧ P.cellsOf e = 1
noncomputable def bitsN (k : IntKind) : Nat := IntKind.casesOn k 8 16 32 64 8 16 32 64
theorem bitsN_eq (k : IntKind) : bitsN k = k.bits := by cases k <;> rfl
noncomputable def evShr (k : IntKind) (a b : Nat) (kk : KP) : R := cond (Nat.blt b (bitsN k)) (fN (Nat.div a (Nat.pow 2 b)) fun r => kk (.i k (.ofNat r))) none
noncomputable def evPp (T : Tab) (t : TypeId) (o : Id) (m : Nat) (o' : Id) (m' : Nat) (kk : KP) (r : Bool) : R := cond (T.pt t) (cond (Nat.beq m m') (cond (eqId o o') (kk (.b r)) none) none) none
noncomputable def evFadd (a b : Nat) (kk : KP) : R := match FloatKind.f64.format.add a b with | some r => fN r fun r => kk (.f64 r) | none => none
noncomputable def evBin2 (T : Tab) (op : BinOp) (t : TypeId) (x y : V) (kk : KP) : R :=
  match op, x, y with
  | .shr, .i k (.ofNat a), .i _ (.ofNat b) => evShr k a b kk
  | .add, .f64 a, .f64 b => evFadd a b kk
  | .eql, .p o m, .p o' m' => evPp T t o m o' m' kk true
  | .neq, .p o m, .p o' m' => evPp T t o m o' m' kk false
  | op, x, y => evBin T op t x y kk
section
variable {P : Program} {T : Tab} (hT : TabOk P T) {M : MTab} (hF : FlOk P M) {E : Operand → V} {kk : KP} {h : H} {n : Id} {k : KV}
include hT in
theorem bin2_ok (op : BinOp) (t ty : TypeId) (x y : Operand) : Pure P (.binOp op t x y ty) E kk (evBin2 T op t (E x) (E y) kk) := by
  unfold evBin2
  split
  · rename_i ki a kj b hx hy
    unfold evShr
    rw [blt_eq, bitsN_eq, fN_eq]
    by_cases hc : b < ki.bits
    case neg => simp only [hc, decide_false, cond_false]; exact pure_none
    simp only [hc, decide_true, cond_true]
    refine pure_one fun h n o ho w0 ι ρ w hb hρ => ?_
    have h1 := hρ x (by simp [Op.operands])
    have h2 := hρ y (by simp [Op.operands])
    rw [hx] at h1
    rw [hy] at h2
    have h1 : ρ x = .int ki (a : Int) := h1
    have h2 : ρ y = .int kj (b : Int) := h2
    refine ⟨_, ?_, rfl⟩
    have hm : min b ki.bits = b := by omega
    have hs : (binOp .shr t (.int ki (a : Int)) (.int kj (b : Int))).run P w = .ok (.int ki ((a / 2 ^ b : Nat) : Int)) w := by
      show (Op.shift .shr ki (a : Int) kj (b : Int)).run P w = _
      unfold Op.shift
      have hn : ¬ (b : Int) < 0 := by omega
      rw [if_neg hn]
      simp only [Int.toNat_natCast, hm, Sem.run_pure]
      have e2 : ((2 : Int) ^ b) = ((2 ^ b : Nat) : Int) := by simp
      rw [e2, Int.fdiv_eq_ediv_of_nonneg _ (Int.natCast_nonneg _), Int.natCast_ediv]
    have hg : (eqGuard .shr t x y (.int ki (a : Int)) (.int kj (b : Int))).run P w = .ok () w := rfl
    simp only [execOp, ho, h1, h2, Sem.run_bind, hg, hs, Result.andThen_ok, Sem.run_pure]
    rfl
  · rename_i a b hx hy
    unfold evFadd
    split
    · rename_i r hr
      rw [fN_eq]
      refine pure_one fun h n o ho w0 ι ρ w hb hρ => ?_
      have h1 := hρ x (by simp [Op.operands])
      have h2 := hρ y (by simp [Op.operands])
      rw [hx] at h1
      rw [hy] at h2
      have h1 : ρ x = .float .f64 a := h1
      have h2 : ρ y = .float .f64 b := h2
      refine ⟨_, ?_, rfl⟩
      have hs : (binOp .add t (.float .f64 a) (.float .f64 b)).run P w = .ok (.float .f64 r) w := by
        have e : binOp .add t (.float .f64 a) (.float .f64 b) = Op.floatArith .add .f64 a b := rfl
        rw [e]
        unfold Op.floatArith
        simp [hr]
      have hg : (eqGuard .add t x y (.float .f64 a) (.float .f64 b)).run P w = .ok () w := rfl
      simp only [execOp, ho, h1, h2, Sem.run_bind, hg, hs, Result.andThen_ok, Sem.run_pure]
    · exact pure_none
  · rename_i o m o' m' hx hy
    unfold evPp
    cases hp : T.pt t with
    | false => exact pure_none
    | true =>
      rw [beq_eq]
      by_cases hm : m = m'
      case neg => simp only [hm, decide_false, cond_true, cond_false]; exact pure_none
      cases he : eqId o o' with
      | false => simp only [hm, decide_true, cond_true, cond_false]; exact pure_none
      | true =>
        simp only [hm, decide_true, cond_true]
        have he := eqId_ok he
        subst he hm
        refine pure_one fun h n o2 ho w0 ι ρ w hb hρ => ?_
        have h1 := hρ x (by simp [Op.operands])
        have h2 := hρ y (by simp [Op.operands])
        rw [hx] at h1
        rw [hy] at h2
        obtain ⟨pl, e1, h1⟩ := h1
        obtain ⟨pl', e2, h2⟩ := h2
        rw [e1] at e2; cases e2
        obtain ⟨e, j, h5, h6⟩ := ptrT_spec (hT.pt t hp)
        have := run_eql_ptr_same (P := P) w ⟨pl.b, pl.m + m, none⟩ h5 h6
        exact ⟨.bool true, by simp [execOp, ho, h1, h2, eqGuard_ptr, this], rfl⟩
  · rename_i o m o' m' hx hy
    unfold evPp
    cases hp : T.pt t with
    | false => exact pure_none
    | true =>
      rw [beq_eq]
      by_cases hm : m = m'
      case neg => simp only [hm, decide_false, cond_true, cond_false]; exact pure_none
      cases he : eqId o o' with
      | false => simp only [hm, decide_true, cond_true, cond_false]; exact pure_none
      | true =>
        simp only [hm, decide_true, cond_true]
        have he := eqId_ok he
        subst he hm
        refine pure_one fun h n o2 ho w0 ι ρ w hb hρ => ?_
        have h1 := hρ x (by simp [Op.operands])
        have h2 := hρ y (by simp [Op.operands])
        rw [hx] at h1
        rw [hy] at h2
        obtain ⟨pl, e1, h1⟩ := h1
        obtain ⟨pl', e2, h2⟩ := h2
        rw [e1] at e2; cases e2
        obtain ⟨e, j, h5, h6⟩ := ptrT_spec (hT.pt t hp)
        have := Lib.run_neq_ptr_same (P := P) w ⟨pl.b, pl.m + m, none⟩ h5 h6
        exact ⟨.bool false, by simp [execOp, ho, h1, h2, eqGuard_ptr, this], rfl⟩
  · exact evBin_ok hT _ _ _ _ _
noncomputable def evFld (M : MTab) (s : TypeId) (f : Nat) (x : V) (kk : KP) : R :=
  match x, M.fd s f with
  | .ag cs, some i => (match getL i cs with | some v => kk v | none => none)
  | _, _ => none
include hF in
theorem fld_ok (s : TypeId) (f : Nat) (x : Operand) : Pure P (.field s x f) E kk (evFld M s f (E x) kk) := by
  unfold evFld
  split
  · rename_i cs i hx hfd
    rw [getL_eq]
    split
    · rename_i v hv
      refine pure_one fun h n o ho w0 ι ρ w hb hρ => ?_
      have h1 := hρ x (by simp [Op.operands])
      rw [hx] at h1
      obtain ⟨us, e1, hr⟩ := h1
      obtain ⟨u, a1, a2⟩ := hr.get hv
      have := hF.2.1 s f i hfd us.toArray u w (by simpa using a1)
      exact ⟨u, by simp [execOp, ho, e1, this], a2⟩
    · exact pure_none
  · exact pure_none
noncomputable def evReal (x : V) (kk : KP) : R := match x with | .c64 a _ => kk (.f64 a) | _ => none
noncomputable def evCplx (x y : V) (kk : KP) : R := match x, y with | .f64 a, .f64 b => kk (.c64 a b) | _, _ => none
theorem real_ok (x : Operand) (ts : Array TypeId) : Pure P (.call { callee := .builtin .real, args := #[x], argTypes := ts }) E kk (evReal (E x) kk) := by
  unfold evReal
  split
  · rename_i a b hx
    refine pure_one fun h n o ho w0 ι ρ w hb hρ => ?_
    have h1 := hρ x (by simp [Op.operands, Call.operands])
    rw [hx] at h1
    have h1 : ρ x = _ := h1
    have hr : (Builtin.real_ ts o.type #[.complex .f64 a b]).run P w = .ok (.float .f64 a) w := rfl
    exact ⟨_, by simp [execOp, ho, resolve, h1, invoke, builtin, hr], rfl⟩
  · exact pure_none
theorem cplx_ok (x y : Operand) (ts : Array TypeId) : Pure P (.call { callee := .builtin .complex, args := #[x, y], argTypes := ts }) E kk (evCplx (E x) (E y) kk) := by
  unfold evCplx
  split
  · rename_i a b hx hy
    refine pure_one fun h n o ho w0 ι ρ w hb hρ => ?_
    have h1 := hρ x (by simp [Op.operands, Call.operands])
    have h2 := hρ y (by simp [Op.operands, Call.operands])
    rw [hx] at h1
    rw [hy] at h2
    have h1 : ρ x = _ := h1
    have h2 : ρ y = _ := h2
    have hr : (Builtin.complex_ ts o.type #[.float .f64 a, .float .f64 b]).run P w = .ok (.complex .f64 a b) w := rfl
    exact ⟨_, by simp [execOp, ho, resolve, h1, h2, invoke, builtin, hr], rfl⟩
  · exact pure_none
noncomputable def evCap (T : Tab) (t : TypeId) (x : V) (kk : KP) : R := match x, T.kd t with | .ns, .slice _ => kk (.i .i64 (.ofNat 0)) | _, _ => none
include hT in
theorem cap_ok (t : TypeId) (x : Operand) : Pure P (.call { callee := .builtin .cap, args := #[x], argTypes := #[t] }) E kk (evCap T t (E x) kk) := by
  unfold evCap
  split
  · rename_i e hx hk
    refine pure_one fun h n o ho w0 ι ρ w hb hρ => ?_
    have h1 := hρ x (by simp [Op.operands, Call.operands])
    rw [hx] at h1
    have h1 : ρ x = _ := h1
    have hu := hT.kslice _ _ hk
    exact ⟨.int .i64 0, by simp [execOp, ho, resolve, h1, invoke, builtin, Builtin.cap_, run_underlying hu, goInt], rfl⟩
  · exact pure_none
noncomputable def evSld (x : V) (kk : KP) : R := match x with | .ns => kk .np | .sl o _ off len => cond (Nat.blt 0 len) (kk (.p o off)) none | _ => none
theorem sld_ok (x : Operand) (ts : Array TypeId) : Pure P (.call { callee := .builtin .unsafeSliceData, args := #[x], argTypes := ts }) E kk (evSld (E x) kk) := by
  unfold evSld
  split
  · rename_i hx
    refine pure_one fun h n o ho w0 ι ρ w hb hρ => ?_
    have h1 := hρ x (by simp [Op.operands, Call.operands])
    rw [hx] at h1
    have h1 : ρ x = _ := h1
    exact ⟨_, by simp [execOp, ho, resolve, h1, invoke, builtin, Lib.run_unsafeSliceData_nil], rfl⟩
  · rename_i so sz off len hx
    rw [blt_eq]
    by_cases hl : 0 < len
    case neg => simp only [hl, decide_false, cond_false]; exact pure_none
    simp only [hl, decide_true, cond_true]
    refine pure_one fun h n o ho w0 ι ρ w hb hρ => ?_
    have h1 := hρ x (by simp [Op.operands, Call.operands])
    rw [hx] at h1
    obtain ⟨pl, c, e1, h2, h3, ⟨h4, h5, h6⟩ | ⟨h4, a, h6⟩⟩ := h1
    · have := Lib.run_unsafeSliceData_row (P := P) w ts o.type ⟨pl.b, pl.m + off, none⟩ len c (by omega)
      exact ⟨_, by simp [execOp, ho, resolve, h6, invoke, builtin, this], pl, e1, rfl⟩
    · omega
  · exact pure_none
noncomputable def evMkSl (T : Tab) (t : TypeId) (l c : V) (h : H) (n : Id) (k : KV) : R :=
  match l, c, T.ap t, T.bb t with
  | .i _ (.ofNat a), .i _ (.ofNat b), some (e, sz, by_), none => cond (Nat.beq a b) (cond (Nat.ble by_ 1048576) (cond (Nat.ble a 1048576) (match T.zd e, nxt n with
    | some zs, some n' => cond (Nat.beq (lenL zs) sz) (cond (allL (repLL (zeroV zs) a)) (k (.sl n sz 0 a) (hset (.cs 0 0 (repLL (zeroV zs) a)) n h) n') none) none
    | _, _ => none) none) none) none
  | _, _, _, _ => none
include hT in
theorem mkSl_ok (t : TypeId) (l c : Operand) : Ob P (.makeSlice t l c) E h n k (evMkSl T t (E l) (E c) h n k) := by
  unfold evMkSl
  split
  · rename_i ka a kb b e sz by_ hl hc hap hbb
    rw [beq_eq, ble_eq, ble_eq]
    refine ob_cond fun c1 => ob_cond fun c2 => ob_cond fun c3 => ?_
    have c1 := of_decide_eq_true c1
    have c2 := of_decide_eq_true c2
    have c3 := of_decide_eq_true c3
    subst c1
    split
    · rename_i zs n' hz hn
      rw [beq_eq, lenL_eq]
      refine ob_cond fun c4 => ob_cond fun c5 => ?_
      have c4 := of_decide_eq_true c4
      obtain ⟨hu, i, z, hi, hzz, hs, hby, hzs, hpos⟩ := appT_spec (hT.ap _ _ hap)
      obtain ⟨i', zv, hi', hz', hrz⟩ := zeroD_spec (hT.zd _ _ hz)
      rw [hi] at hi'; cases hi'
      rw [hzz] at hz'; cases hz'
      refine ob_mk fun o ho w0 ι ρ w hb hρ => ?_
      have h1 := hρ l (by simp [Op.operands])
      have h2 := hρ c (by simp [Op.operands])
      rw [hl] at h1
      rw [hc] at h2
      have h1 : ρ l = .int ka (a : Int) := h1
      have h2 : ρ c = .int kb (a : Int) := h2
      have hbytes : i.bytes * a ≤ 281474976710656 := by
        rw [hby]; exact Nat.le_trans (Nat.mul_le_mul c2 c3) (by decide)
      have hbi : (i.bytes : Int) * (a : Int) ≤ 281474976710656 := by
        have h : ((i.bytes * a : Nat) : Int) ≤ 281474976710656 := by omega
        rwa [Int.natCast_mul] at h
      have hr := run_make (P := P) w t e i z hu hi hzz ka kb a a (by omega) (Int.le_refl _) hbi (by omega)
      simp only [Int.toNat_natCast] at hr
      have hrun : (execOp ρ o).run P w = .ok (.value (.slice (some ⟨w.heap.size, 0, none⟩) a a)) (w.alloc (.cells (madeCells z.cells (a * i.size)) e)) := by
        simp [execOp, ho, h1, h2, hr]
      rw [hrun]
      have hzl : (zeroV zs).length = sz := by unfold zeroV; rw [mapL_eq]; simpa using c4
      have hcells : RVs ι (repLL (zeroV zs) a) (madeCells z.cells (a * i.size)).toList := by
        have := repLL_ok (ι := ι) (zeroV_ok hrz) (by omega) a
        rw [hzl] at this
        rw [hs]; exact this
      have hlen : (repLL (zeroV zs) a).length = (madeCells z.cells (a * i.size)).size := by have := hcells.length; simpa using this.symm
      have ht : (madeCells z.cells (a * i.size)).toList.take (repLL (zeroV zs) a).length = (madeCells z.cells (a * i.size)).toList := by rw [hlen, ← Array.length_toList, List.take_length]
      obtain ⟨h3, h4⟩ := new_cells hb hn (madeCells z.cells (a * i.size)) e (0, 0) 0 0 _ (fun h => absurd rfl h) (by rw [ht]; exact hcells) (by omega) (by rw [ht]; exact cells_one hcells c5) (fun off _ _ => by simp) (World.grownBy_alloc w _ none) (Nat.le_refl _) (heap_alloc_new w _)
      have hsm : (madeCells z.cells (a * i.size)).size = a * sz := by rw [size_madeCells, hs]
      refine ⟨_, h3, h4, ⟨w.heap.size, 0, (madeCells z.cells (a * i.size)).size⟩, a, upI_same _ _ _, Nat.le_refl _, by simp only [maxLen]; omega, ?_⟩
      by_cases h0 : 0 < a
      · exact .inl ⟨h0, by simp only; omega, by simp⟩
      · exact .inr ⟨by omega, _, by rw [show a = 0 by omega]⟩
    · exact ob_none
  · exact ob_none
noncomputable def evClear (T : Tab) (t : TypeId) (x : V) (h : H) (n : Id) (k : KV) : R :=
  match x, T.kd t with
  | .ns, .slice _ => k (.tp []) h n
  | .sl o sz off len, .slice e => cond (Nat.beq len 0) (k (.tp []) h n) (match T.zd e, hget o h with
    | some zs, some (.cs ty fz xs) => cond (Nat.beq (lenL zs) sz) (cond (Nat.blt 0 sz) (cond (allL (zeroV zs)) (cond (Nat.ble fz off) (cond (Nat.ble (off + len * sz) (lenL xs)) (k (.tp []) (hset (.cs 0 fz (blitL (repLL (zeroV zs) len) off xs)) o h) n) none) none) none) none) none
    | _, _ => none)
  | _, _ => none
theorem repLL_mem {z : List V} {x : V} : ∀ {n : Nat}, x ∈ repLL z n → x ∈ z
  | 0, h => by cases h
  | n + 1, h => by
    have h : x ∈ appL z (repLL z n) := h
    rw [appL_eq, List.mem_append] at h
    exact h.elim id repLL_mem
include hT in
theorem clear_ok (t : TypeId) (x : Operand) : Ob P (.call { callee := .builtin .clear, args := #[x], argTypes := #[t] }) E h n k (evClear T t (E x) h n k) := by
  unfold evClear
  have cal : ∀ {ρ : Operand → Value} {o : Oper} {w w' : World}, o.op = .call { callee := .builtin .clear, args := #[x], argTypes := #[t] } → (Builtin.clear_ #[t] o.type #[ρ x]).run P w = .ok (.tuple #[]) w' → (execOp ρ o).run P w = .ok (.value (.tuple #[])) w' := fun ho hr => by
    simp [execOp, ho, resolve, invoke, builtin, hr]
  split
  · rename_i e hx hk
    refine ob_mk (xop_pure fun o ho w0 ι ρ w hb hρ => ?_)
    have h1 := hρ x (by simp [Op.operands, Call.operands])
    rw [hx] at h1
    have h1 : ρ x = _ := h1
    have hu := hT.kslice _ _ hk
    exact ⟨_, cal ho (by simp [h1, Builtin.clear_, run_underlying hu]), [], rfl, rfl⟩
  · rename_i so sz off len e hx hk
    have hu := hT.kslice _ _ hk
    rw [beq_eq]
    by_cases h0 : len = 0
    · simp only [h0, decide_true, cond_true]
      refine ob_mk (xop_pure fun o ho w0 ι ρ w hb hρ => ?_)
      have h1 := hρ x (by simp [Op.operands, Call.operands])
      rw [hx] at h1
      subst h0
      obtain ⟨pl, c, e1, h2, h3, ⟨h4, h5, h6⟩ | ⟨h4, a, h6⟩⟩ := h1
      · exact ⟨_, cal ho (by simp [h6, Builtin.clear_, run_underlying hu]), [], rfl, rfl⟩
      · exact ⟨_, cal ho (by simp [h6, Builtin.clear_, run_underlying hu]), [], rfl, rfl⟩
    · simp only [h0, decide_false, cond_false]
      split
      · rename_i zs ty fz xs hz hg
        rw [beq_eq, blt_eq, ble_eq, ble_eq, lenL_eq, lenL_eq]
        refine ob_cond fun c1 => ob_cond fun c2 => ob_cond fun c3 => ob_cond fun c4 => ob_cond fun c5 => ?_
        have c1 := of_decide_eq_true c1
        have c2 := of_decide_eq_true c2
        have c4 := of_decide_eq_true c4
        have c5 := of_decide_eq_true c5
        obtain ⟨i, zv, hi, hz', hrz⟩ := zeroD_spec (hT.zd _ _ hz)
        have hzl : (zeroV zs).length = sz := by unfold zeroV; rw [mapL_eq]; simpa using c1
        refine ob_mk fun o ho w0 ι ρ w hb hρ => ?_
        have h1 := hρ x (by simp [Op.operands, Call.operands])
        rw [hx] at h1
        obtain ⟨pl, c, e1, h2, h3, ⟨h4, h5, h6⟩ | ⟨h4, a, h6⟩⟩ := h1
        case inr => omega
        obtain ⟨vals, e', fr, g1, g2, g3, g4, g5, _⟩ := hb.obj _ _ _ e1 hg
        have hzc : zv.cells.size = sz := by have := (zeroV_ok hrz (ι := ι)).length; simp only [Array.length_toList] at this; omega
        have hcells : RVs ι (repLL (zeroV zs) len) (Builtin.zeroCells zv.cells len).toList := by
          have := repLL_ok (ι := ι) (zeroV_ok hrz) (by omega) len
          rw [hzl] at this
          unfold Builtin.zeroCells
          rw [hzc]; rw [hzc] at this; exact this
        have hall : allL (repLL (zeroV zs) len) = true := by
          have key : ∀ (l : List V), (∀ y ∈ l, one y = true) → allL l = true := fun l => by
            induction l with
            | nil => intro _; rfl
            | cons y l ih =>
              intro hy
              show cond (one y) (allL l) false = true
              rw [hy y (by simp), ih fun z hz => hy z (by simp [hz])]; rfl
          refine key _ fun y hy => ?_
          obtain ⟨j, hj⟩ := List.getElem?_of_mem (repLL_mem hy)
          exact allL_spec c3 j y hj
        have hlen : (repLL (zeroV zs) len).length = len * sz := by rw [repLL_len, hzl]
        have hul := hcells.length
        rw [hlen] at hul
        obtain ⟨w', cur', r1, r2, r3, r4, r5, r6, r7⟩ := run_storeCells (P := P) (b := pl.b) (o := pl.m + off) (e := e') (fr := fr) (Builtin.zeroCells zv.cells len).toList 0 vals w g1 (by omega) (fun off' b1 b2 => g5 off' (by omega) (by omega)) (cells_one hcells hall)
        have hrun : (Builtin.clear_ #[t] o.type #[ρ x]).run P w = .ok (.tuple #[]) w' := by
          rw [h6]
          cases len with
          | zero => exact absurd rfl h0
          | succ m => simp [Builtin.clear_, run_underlying hu, zeroValue, typeInfo, hi, hz', r1]
        rw [cal ho hrun]
        refine ⟨ι, Ext.refl _, hb.turn e1 ⟨_, hg, by intro e; cases e⟩ r2 r3 _ ⟨cur', e', fr, r5, by omega, by rw [blitL_eq]; simp [hlen]; omega, fun i y hy => ?_, (by rw [r6]; exact g5), fun h => absurd rfl h⟩, [], rfl, rfl⟩
        rw [blitL_eq, hlen, List.getElem?_append] at hy
        rw [r7]
        have lt1 : (xs.take off).length = off := by simp; omega
        rw [lt1] at hy
        split at hy
        · rename_i hi
          rw [List.getElem?_take_of_lt hi] at hy
          rw [if_neg (by omega)]
          exact g4 i y hy
        · rename_i hi
          rw [List.getElem?_append] at hy
          split at hy
          · rename_i hj
            rw [hlen] at hj
            obtain ⟨u, a1, a2⟩ := hcells.get hy
            refine ⟨u, by rw [if_pos (by omega), show pl.m + i - (pl.m + off + 0) = i - off by omega]; exact a1, a2, cells_one hcells hall u (List.mem_of_getElem? a1)⟩
          · rename_i hj
            rw [hlen] at hj hy
            rw [List.getElem?_drop] at hy
            rw [if_neg (by omega)]
            have := g4 _ y hy
            rw [show pl.m + (off + len * sz + (i - off - len * sz)) = pl.m + i by omega] at this
            exact this
      · exact ob_none
  · exact ob_none
noncomputable def evCopy (T : Tab) (t : TypeId) (x y : V) (kk : KP) : R := match x, y, T.bb t with | .sl _ _ _ 0, .ns, some _ => kk (.i .i64 (.ofNat 0)) | _, _, _ => none
include hT in
theorem copy_ok (t u : TypeId) (x y : Operand) : Pure P (.call { callee := .builtin .copy, args := #[x, y], argTypes := #[t, u] }) E kk (evCopy T t (E x) (E y) kk) := by
  unfold evCopy
  split
  · rename_i so sz off e hx hy hbb
    obtain ⟨hu, i, hi, hz, hsz, hby⟩ := byteT_spec (hT.bb _ _ hbb)
    refine pure_one fun h n o ho w0 ι ρ w hb hρ => ?_
    have h1 := hρ x (by simp [Op.operands, Call.operands])
    have h2 := hρ y (by simp [Op.operands, Call.operands])
    rw [hx] at h1
    rw [hy] at h2
    have h2 : ρ y = _ := h2
    obtain ⟨pl, c, e1, _, _, ⟨_, _, h6⟩ | ⟨hc0, a, h6⟩⟩ := h1
    · have := run_copy_nil (P := P) w t u o.type e ⟨pl.b, pl.m + off, none⟩ 0 c hu (by simp [hi])
      exact ⟨.int .i64 0, by simp [execOp, ho, resolve, h6, h2, invoke, builtin, this, goInt], rfl⟩
    · have := run_copy_nil (P := P) w t u o.type e a 0 0 hu (by simp [hi])
      exact ⟨.int .i64 0, by simp [execOp, ho, resolve, h6, h2, invoke, builtin, this, goInt], rfl⟩
  · exact pure_none
noncomputable def evUst (M : MTab) (t : TypeId) (x l : V) (h : H) (n : Id) (k : KV) : R :=
  match x, l, M.pe t with
  | .np, .i .i64 (.ofNat 0), _ => k (.s 0 0) h n
  | .p o 0, .i .i64 (.ofNat m), some e => cond (Nat.blt 0 m) (cond (Nat.ble m 16777216) (match hget o h with
    | some (.bs ty fz len b) => cond (Nat.beq ty (Nat.succ e)) (cond (Nat.ble m len) (fN (b / 256 ^ (len - m)) fun r => k (.s m r) (hset (.bs ty (cond (Nat.ble fz m) m fz) len b) o h) n) none) none
    | _ => none) none) none
  | _, _, _ => none
include hF in
theorem ust_ok (t u : TypeId) (x l : Operand) : Ob P (.call { callee := .builtin .unsafeString, args := #[x, l], argTypes := #[t, u] }) E h n k (evUst M t (E x) (E l) h n k) := by
  unfold evUst
  split
  · rename_i hx hl
    refine ob_mk (xop_pure fun o ho w0 ι ρ w hb hρ => ?_)
    have h1 := hρ x (by simp [Op.operands, Call.operands])
    have h2 := hρ l (by simp [Op.operands, Call.operands])
    rw [hx] at h1
    rw [hl] at h2
    have h1 : ρ x = _ := h1
    have h2 : ρ l = .int .i64 0 := h2
    have := Lib.run_unsafeString_none (P := P) w t u o.type none
    exact ⟨.string .empty, by simp [execOp, ho, resolve, h1, h2, invoke, builtin, this], .empty, rfl, rfl, rfl⟩
  · rename_i so m e hx hl hpe
    rw [blt_eq, ble_eq]
    refine ob_cond fun c0 => ob_cond fun c9 => ?_
    have c0 := of_decide_eq_true c0
    have c9 := of_decide_eq_true c9
    split
    · rename_i ty fz len b hg
      rw [beq_eq, ble_eq]
      refine ob_cond fun c1 => ob_cond fun c2 => ?_
      have c1 := of_decide_eq_true c1
      have c2 := of_decide_eq_true c2
      rw [fN_eq]
      obtain ⟨hpt, hce⟩ := hF.2.2 _ _ hpe
      refine ob_mk fun o ho w0 ι ρ w hb hρ => ?_
      have h1 := hρ x (by simp [Op.operands, Call.operands])
      have h2 := hρ l (by simp [Op.operands, Call.operands])
      rw [hx] at h1
      rw [hl] at h2
      obtain ⟨pl, e1, h1⟩ := h1
      have h2 : ρ l = .int .i64 (m : Int) := h2
      obtain ⟨vals, e', fr, bs, g1, g2, g3, g4, g5, g6, g7, g8⟩ := hb.obj _ _ _ e1 hg
      obtain ⟨z1, z2, z3⟩ := g8 (by rw [c1]; exact Nat.succ_ne_zero _)
      have z1 : e' = e := by rw [c1] at z1; exact Nat.succ.inj z1
      subst z1
      have hpm : pl.m + 0 = 0 := by omega
      rw [hpm] at h1
      have hml : m ≤ bs.length := by omega
      have hlt : (bs.take m).length = m := by simp; omega
      have hcell : ∀ j y, (bs.take m)[j]? = some y → w.cell? ((⟨pl.b, 0, none⟩ : Addr).add j) = some (.int .u8 y.toNat) := fun j y hy => by
        rw [List.getElem?_take] at hy
        split at hy
        · rw [K.add_lit, cell_of_row w _ _ vals e' fr g1]
          have := g6 j y hy
          rw [show pl.m + j = 0 + j by omega] at this
          exact this
        · cases hy
      have hus := Lib.run_unsafeString_row (P := P) w t u o.type e' hpt hce pl.b vals.size (by simp [World.shape?, g1]) (bs.take m) (fun hh => by rw [hh] at hlt; simp at hlt; omega) (by omega) (by omega) hcell
      rw [hlt] at hus
      have hrun : (execOp ρ o).run P w = .ok (.value (.string ⟨(bs.take m).toArray⟩)) (w.freeze ⟨pl.b, 0, none⟩ m) := by
        simp [execOp, ho, resolve, h1, h2, invoke, builtin, hus]
      rw [hrun]
      have hfz : w.freeze ⟨pl.b, 0, none⟩ m = { w with heap := w.heap.modify pl.b fun | .cells c elem (lo, hi) => .cells c elem (if lo == hi then (0, 0 + m) else (min lo 0, max hi (0 + m))) | o => o } := by
        unfold World.freeze
        rw [if_neg (by omega)]
        rfl
      have hbl : pl.b < w.heap.size := (Array.getElem?_eq_some_iff.1 g1).1
      obtain ⟨lo, hi⟩ := fr
      have z3 : lo = 0 := z3
      subst z3
      have hat : (w.freeze ⟨pl.b, 0, none⟩ m).heap[pl.b]? = some (.cells vals e' (0, if (0 : Nat) == hi then m else max hi m)) := by
        rw [hfz]
        simp only [Array.getElem?_modify, if_true, g1, Option.map_some, Nat.zero_add]
        by_cases hz : (0 : Nat) == hi
        · simp [hz]
        · simp [hz]
      refine ⟨ι, Ext.refl _, hb.turn e1 ⟨_, hg, by intro e; cases e⟩ (by
        rw [hfz]
        exact ⟨rfl, rfl, rfl, by simp, fun j _ hj => by
          have hne : pl.b ≠ j := fun hh => hj (by rw [hh])
          simp only [Array.getElem?_modify]
          rw [if_neg hne]⟩) (by rw [hfz]; exact Nat.le_refl _) _ ⟨vals, e', _, bs, hat, g2, g3, g4, g5, g6, fun off h3 h4 => ?_, fun _ => ⟨by rw [c1], z2, rfl⟩⟩, _, rfl, by simpa using hlt, ?_⟩
      · have h5 := g7 off h3 (by
          rw [ble_eq] at h4
          by_cases hq : fz ≤ m
          · simp only [hq, decide_true, cond_true] at h4; omega
          · simp only [hq, decide_false, cond_false] at h4; omega)
        have h6 : m ≤ off := by
          rw [ble_eq] at h4
          by_cases hq : fz ≤ m
          · simp only [hq, decide_true, cond_true] at h4; omega
          · simp only [hq, decide_false, cond_false] at h4; omega
        simp only at h5 ⊢
        intro hx2
        apply h5
        refine ⟨Nat.zero_le _, ?_⟩
        obtain ⟨_, h7⟩ := hx2
        split at h7 <;> omega
      · have := valB_take bs m hml
        rw [g4, g5] at this
        simpa using this
    · exact ob_none
  · exact ob_none
noncomputable def evCvp (n0 bT m : Nat) (x : V) (h : H) (n : Id) (k : KV) : R :=
  match x with
  | .p o 0 => (match hget o h with
    | some (.cs ty _ xs) => cond (Nat.beq ty (Nat.succ bT)) (cond (Nat.beq (lenL xs) m) (k (.p o 0) h n) none) none
    | _ => none)
  | _ => none
noncomputable def evConv2 (T : Tab) (M : MTab) (s d : TypeId) (x : V) (h : H) (n : Id) (k : KV) : R :=
  match T.cv s d with
  | some (bT, m) => evCvp 0 bT m x h n k
  | none => cond (M.fl d) (match T.kd s, x with | .int _, .i _ a => fN (FloatKind.f64.nearest a) fun r => k (.f64 r) h n | _, _ => none) (evConv T s d x h n k)
include hT hF in
theorem conv2_ok (h8 : u8T P T) (s d : TypeId) (x : Operand) : Ob P (.convert s d x) E h n k (evConv2 T M s d (E x) h n k) := by
  unfold evConv2
  split
  · rename_i bT m hcv
    unfold evCvp
    split
    · rename_i so hx
      split
      · rename_i ty fz xs hg
        rw [beq_eq, beq_eq, lenL_eq]
        refine ob_cond fun c1 => ob_cond fun c2 => ?_
        have c1 := of_decide_eq_true c1
        have c2 := of_decide_eq_true c2
        refine ob_mk (xop_pure fun o ho w0 ι ρ w hb hρ => ?_)
        have h1 := hρ x (by simp [Op.operands])
        rw [hx] at h1
        obtain ⟨pl, e1, h1⟩ := h1
        obtain ⟨vals, e', fr, g1, g2, g3, g4, g5, g6⟩ := hb.obj _ _ _ e1 hg
        obtain ⟨z1, z2, z3⟩ := g6 (by rw [c1]; exact Nat.succ_ne_zero _)
        have z1 : e' = bT := by rw [c1] at z1; exact Nat.succ.inj z1
        subst z1
        have hpm : pl.m + 0 = 0 := by omega
        have := hT.cv _ _ _ _ hcv w pl.b (by simp [World.shape?, g1, z3, c2])
        refine ⟨ρ x, by rw [h1, hpm]; simp [execOp, ho, h1, hpm, this], pl, e1, h1⟩
      · exact ob_none
    · exact ob_none
  · cases hf : M.fl d with
    | false => exact conv_ok hT h8 s d x
    | true =>
      simp only [cond_true]
      split
      · rename_i ki kj a hk hx
        rw [fN_eq]
        refine ob_mk (xop_pure fun o ho w0 ι ρ w hb hρ => ?_)
        have h1 := hρ x (by simp [Op.operands])
        rw [hx] at h1
        have h1 : ρ x = _ := h1
        have := run_convert_int_float (P := P) w s d kj .f64 a (by rw [hT.kint _ _ hk]; rfl) (hF.1 d hf)
        exact ⟨_, by simp [execOp, ho, h1, this, floatOfInt], rfl⟩
      · exact ob_none
end
end Go.Proofs.Nw.X
end
section
/- X11: code: operations one behind the other, branches, blocks, loops, jumps, calls. -/
open Go Go.RowKit
namespace Go.Proofs.Nw.X
open Go.Proofs.Nw.K
abbrev Env := List V
noncomputable def rd (env : Env) (t : Nat) : V := match getL t env with | some v => v | none => .j
noncomputable def evE (env : Env) : Operand → V
  | .tmp t => rd env t
  | .const v => constV v
  | .func f => .fn f []
  | .global _ => .j
noncomputable def putE (dst : Option Tmp) (v : V) (env : Env) : Env := match dst with | some d => setL v d env | none => env
def XRel (N : Nat) (F : Fx) (ι0 : Io) (env : Env) (h : H) (n : Id) (a : Act) (w : World) : Prop :=
  a.tmps.size = N ∧ a.defers = [] ∧ env.length ≤ N ∧ ∃ ι, Ext ι0 ι ∧ HR F ι h n w ∧ ∀ t, RV ι (rd env t) (a.tmps.getD t undef)
theorem rd_set (env : Env) (d t : Nat) (v : V) : rd (setL v d env) t = if t = d ∧ d < env.length then v else rd env t := by
  unfold rd
  rw [getL_eq, setL_eq, getL_eq, List.getElem?_set]
  by_cases h1 : d = t
  · subst h1
    by_cases h2 : d < env.length
    · simp [h2]
    · simp [h2]
  · have : ¬ (t = d ∧ d < env.length) := fun h => h1 h.1.symm
    simp [h1, this]
theorem evE_ok {ι : Io} {env : Env} {a : Act} (h : ∀ t, RV ι (rd env t) (a.tmps.getD t undef)) (x : Operand) : RV ι (evE env x) (a.eval x) := by
  cases x with
  | tmp t => exact h t
  | const v => exact constV_ok ι v
  | global g => trivial
  | func f => exact ⟨[], rfl, rfl⟩
theorem xrel_put {N : Nat} {F : Fx} {ι0 ι : Io} {env : Env} {h : H} {n : Id} {a : Act} {w : World} (h1 : a.tmps.size = N) (h2 : a.defers = []) (h3 : env.length ≤ N) (he : Ext ι0 ι) (hb : HR F ι h n w) (hr : ∀ t, RV ι (rd env t) (a.tmps.getD t undef))
    (dst : Option Tmp) {v : V} {u : Value} (hv : RV ι v u) : XRel N F ι0 (putE dst v env) h n (a.put dst u) w := by
  cases dst with
  | none => exact ⟨h1, h2, h3, ι, he, hb, hr⟩
  | some d =>
    refine ⟨by simp [Act.put, h1], by simp [Act.put, h2], by simp only [putE, setL_eq, List.length_set]; exact h3, ι, he, hb, fun t => ?_⟩
    simp only [putE]
    rw [rd_set]
    by_cases hd : d < a.tmps.size
    · rw [K.put_getD a d t u hd]
      by_cases ht : t = d
      · rw [if_pos ht]
        split
        · exact hv
        · rename_i hn
          have : rd env t = .j := by
            unfold rd
            have hle : env.length ≤ t := by subst ht; simpa using hn
            rw [getL_eq, List.getElem?_eq_none hle]
          rw [this]; trivial
      · rw [if_neg ht, if_neg (fun hh => ht hh.1)]; exact hr t
    · have e1 : ¬ (t = d ∧ d < env.length) := fun hh => hd (by rw [h1]; exact Nat.lt_of_lt_of_le hh.2 h3)
      rw [if_neg e1]
      have e2 : (a.put (some d) u).tmps = a.tmps := by simp [Act.put, Array.setIfInBounds, hd]
      rw [e2]; exact hr t
abbrev Fn1 := List V → H → Id → KV → R
def Sd (P : Program) (f : FuncId) (g : Fn1) : Prop :=
  ∀ vs h n k r, g vs h n k = some r → ∃ v h' n', k v h' n' = some r ∧ ∀ F ι w (us : List Value), HR F ι h n w → RVs ι vs us → XOut P F ι v h' n' ((callFunc f us.toArray).run P w)
noncomputable def evCall (cf : FuncId → Fn1) (x : V) (args : List V) (h : H) (n : Id) (k : KV) : R := match x with | .fn f caps => cf f (appL args caps) h n k | _ => none
theorem call_ok {P : Program} {cf : FuncId → Fn1} (hcf : ∀ f, Sd P f (cf f)) {E : Operand → V} {h : H} {n : Id} {k : KV} (x : Operand) (args : Array Operand) (ts : Array TypeId) :
    Ob P (.call { callee := .value x, args := args, argTypes := ts }) E h n k (evCall cf (E x) (mapL E args.toList) h n k) := by
  unfold evCall
  split
  · rename_i f caps hx
    intro r hr
    rw [appL_eq, mapL_eq] at hr
    obtain ⟨v, h', n', h1, h2⟩ := hcf f _ _ _ _ _ hr
    refine ⟨v, h', n', h1, fun o ho F ι ρ w hb hρ => ?_⟩
    have hf := hρ x (by simp [Op.operands, Call.operands])
    rw [hx] at hf
    obtain ⟨us, hf, hc⟩ := hf
    have ha : RVs ι (args.toList.map E) (args.toList.map ρ) := RVs_iff.2 ⟨by simp, fun i y hy => by
      simp only [List.getElem?_map, Option.map_eq_some_iff] at hy
      obtain ⟨z, hz, rfl⟩ := hy
      exact ⟨ρ z, by simp [hz], hρ z (by
        have hm : z ∈ args := by rw [← Array.mem_toList_iff]; exact List.mem_of_getElem? hz
        simp only [Op.operands, Call.operands]
        exact Array.mem_append.2 (.inr hm))⟩⟩
    have h3 := h2 F ι w _ hb (ha.app hc)
    have he : args.map ρ ++ us.toArray = (args.toList.map ρ ++ us).toArray := by apply Array.ext'; simp
    have hrun : (execOp ρ o).run P w = (callFunc f (args.toList.map ρ ++ us).toArray).run P w := by
      simp only [execOp, ho, resolve, hf, Deferred.ofValue, Sem.run_bind, Sem.run_pure, Result.andThen_ok, invoke]
      rw [show (#[] ++ Array.map ρ args ++ us.toArray) = (args.toList.map ρ ++ us).toArray by rw [← he]; simp]
    rw [hrun]
    exact h3
  · exact ob_none
noncomputable def evNc' (x : V) (kk : KP) : R := match x with | .p o off => kk (.p o off) | .fn f cs => kk (.fn f cs) | _ => none
theorem nc_ok' {P : Program} {E : Operand → V} {kk : KP} (x : Operand) : Pure P (.nilCheck x) E kk (evNc' (E x) kk) := by
  unfold evNc'
  split
  · rename_i o' off hx
    refine pure_one fun h n o ho w0 ι ρ w hb hρ => ?_
    have h0 := hρ x (by simp [Op.operands])
    rw [hx] at h0
    obtain ⟨pl, e, h0⟩ := h0
    exact ⟨ρ x, by simp [execOp, ho, h0], pl, e, h0⟩
  · rename_i f cs hx
    refine pure_one fun h n o ho w0 ι ρ w hb hρ => ?_
    have h0 := hρ x (by simp [Op.operands])
    rw [hx] at h0
    obtain ⟨us, e, h0⟩ := h0
    exact ⟨ρ x, by simp [execOp, ho, e], us, e, h0⟩
  · exact pure_none
noncomputable def evOp (T : Tab) (M : MTab) (cf : FuncId → Fn1) (op : Op) (E : Operand → V) (h : H) (n : Id) (k : KV) : R :=
  match op with
  | .move x => k (E x) h n
  | .assign x => k (E x) h n
  | .pick c a b => evPick (E c) (E a) (E b) fun v => k v h n
  | .alloc t => evAlloc T t h n k
  | .box _ x => evBox (E x) h n k
  | .build t ps => evBuild T t (prt E ps.toList) fun v => k v h n
  | .buildSlice t l ps => evBuildSl T t l (prt E ps.toList) h n k
  | .insert t m key v => evMapUpd M t (E m) (E key) (E v) h n k
  | .load t a => evLoad T t (E a) h fun v => k v h n
  | .store t a x => evStore T t (E a) (E x) h n k
  | .nilCheck x => evNc' (E x) fun v => k v h n
  | .binOp op t x y _ => evBin2 T op t (E x) (E y) fun v => k v h n
  | .unOp op _ x => evUn op (E x) fun v => k v h n
  | .convert s d x => evConv2 T M s d (E x) h n k
  | .makeFunc (.func f) ⟨[]⟩ caps => evMakeFn E f caps.toList fun v => k v h n
  | .makeMap _ none => evMkMap h n k
  | .slice t x lo hi none => evSlc T t (E x) (lo.map E) (hi.map E) fun v => k v h n
  | .fieldAddr s x f => evFa T s f (E x) fun v => k v h n
  | .indexAddr t x i => evIa T t (E x) (E i) fun v => k v h n
  | .index t x i => evIx T t (E x) (E i) fun v => k v h n
  | .lookup t x i ok => evLook T M t (E x) (E i) ok h fun v => k v h n
  | .mapUpdate t m key v => evMapUpd M t (E m) (E key) (E v) h n k
  | .mapEntry t m key => evMapEnt T M t (E m) (E key) h n k
  | .entryStore _ m s v => evEntSt (E m) (E s) (E v) h n k
  | .extract x i => evExt i (E x) fun v => k v h n
  | .call { callee := .value f, args, .. } => evCall cf (E f) (mapL E args.toList) h n k
  | .call { callee := .builtin .append, args := ⟨[x, y]⟩, argTypes := ⟨[t, u]⟩ } => evApp T t u (E x) (E y) h n k
  | .call { callee := .builtin .len, args := ⟨[x]⟩, argTypes := ⟨[t]⟩ } => evLen T t (E x) fun v => k v h n
  | .call { callee := .builtin .max, args := ⟨[x, y]⟩, .. } => evMax (E x) (E y) fun v => k v h n
  | .field s x f => evFld M s f (E x) fun v => k v h n
  | .makeSlice t l c => evMkSl T t (E l) (E c) h n k
  | .call { callee := .builtin .cap, args := ⟨[x]⟩, argTypes := ⟨[t]⟩ } => evCap T t (E x) fun v => k v h n
  | .call { callee := .builtin .real, args := ⟨[x]⟩, .. } => evReal (E x) fun v => k v h n
  | .call { callee := .builtin .complex, args := ⟨[x, y]⟩, .. } => evCplx (E x) (E y) fun v => k v h n
  | .call { callee := .builtin .unsafeSliceData, args := ⟨[x]⟩, .. } => evSld (E x) fun v => k v h n
  | .call { callee := .builtin .unsafeString, args := ⟨[x, l]⟩, argTypes := ⟨[t, _]⟩ } => evUst M t (E x) (E l) h n k
  | .call { callee := .builtin .clear, args := ⟨[x]⟩, argTypes := ⟨[t]⟩ } => evClear T t (E x) h n k
  | .call { callee := .builtin .copy, args := ⟨[x, y]⟩, argTypes := ⟨[t, _]⟩ } => evCopy T t (E x) (E y) fun v => k v h n
  | _ => none
structure Ok (P : Program) (T : Tab) (M : MTab) (cf : FuncId → Fn1) : Prop where
  tT : TabOk P T
  u8 : u8T P T
  mM : MTabOk P M
  fl : FlOk P M
  cf : ∀ f, Sd P f (cf f)
theorem evOp_ok {P : Program} {T : Tab} {M : MTab} {cf : FuncId → Fn1} (O : Ok P T M cf) {E : Operand → V} {h : H} {n : Id} {k : KV} (op : Op) : Ob P op E h n k (evOp T M cf op E h n k) := by
  unfold evOp
  split
  · exact (move_ok _).ob
  · exact (assign_ok _).ob
  · exact (pick_ok _ _ _).ob
  · exact alloc_ok O.tT _
  · exact box_ok _ _
  · exact build_ok O.tT _ _
  · exact buildSl_ok O.tT _ _ _
  · exact mapUpd_ok O.mM _ _ _ _ _ (.inl rfl)
  · exact load_ok O.tT _ _
  · exact store_ok O.tT _ _ _
  · exact (nc_ok' _).ob
  · exact (bin2_ok O.tT _ _ _ _ _).ob
  · exact (un_ok _ _ _).ob
  · exact conv2_ok O.tT O.fl O.u8 _ _ _
  · exact (makeFn_ok _ _).ob
  · exact mkMap_ok _
  · exact (slc_ok O.tT _ _ _ _).ob
  · exact (fa_ok O.tT _ _ _).ob
  · exact (ia_ok O.tT _ _ _).ob
  · exact (ix_ok O.tT _ _ _).ob
  · exact look_ok O.tT O.mM _ _ _ _
  · exact mapUpd_ok O.mM _ _ _ _ _ (.inr rfl)
  · exact mapEnt_ok O.tT O.mM _ _ _
  · exact entSt_ok _ _ _ _
  · exact (ext_ok _ _).ob
  · exact call_ok O.cf _ _ _
  · exact app_ok O.tT _ _ _ _
  · exact (len_ok O.tT _ _).ob
  · exact (max_ok _ _ _).ob
  · exact (fld_ok O.fl _ _ _).ob
  · exact mkSl_ok O.tT _ _ _
  · exact (cap_ok O.tT _ _).ob
  · exact (real_ok _ _).ob
  · exact (cplx_ok _ _ _).ob
  · exact (sld_ok _ _).ob
  · exact ust_ok O.fl _ _ _ _
  · exact clear_ok O.tT _ _
  · exact (copy_ok O.tT _ _ _ _).ob
  · exact ob_none
end Go.Proofs.Nw.X
end
section
/- X12: code: regions in the order of the text, branches, blocks, loops, jumps back; functions. -/
open Go Go.RowKit
namespace Go.Proofs.Nw.X
open Go.Proofs.Nw.K
noncomputable def jp {α β : Type} (K : α) (f : α → β) : β := f K
abbrev KC := Env → H → Id → R
def XLift (N : Nat) (F : Fx) (ι0 : Io) (e : Exit) (env' : Env) (h' : H) (n' : Id) : Exit → Act → World → Prop := fun e2 a w => e2 = e ∧ XRel N F ι0 env' h' n' a w
def WX (P : Program) (N : Nat) (c : Code) (env : Env) (h : H) (n : Id) (e : Exit) (env' : Env) (h' : H) (n' : Id) : Prop := ∀ F ι0 a w, XRel N F ι0 env h n a w → c.wp P (XLift N F ι0 e env' h' n') a w
section
variable (T : Tab) (M : MTab) (cf : FuncId → Fn1)
noncomputable def guardV (ops : List Oper) (env : Env) (j : Nat) : V := match getL j ops with | some o => (match o.dst with | some d => rd env d | none => .j) | none => .j
noncomputable def gdB (x : V) (want : Bool) (A B : R) : R := match x with
  | .b c => cond (cond c want (notB want)) A B
  | .tp [] => B
  | _ => none
noncomputable def brB (x : V) (A B : R) : R := match x with | .b v => cond v A B | _ => none
noncomputable def evOp1 (ops : List Oper) (o : Oper) (env : Env) (h : H) (n : Id) (k : KC) : R :=
  match o.guard with
  | none => evOp T M cf o.op (evE env) h n fun v h n => k (putE o.dst v env) h n
  | some (j, want) => jp (fun (v : V) (h : H) (n : Id) => k (putE o.dst v env) h n) fun K => gdB (guardV ops env j) want (evOp T M cf o.op (evE env) h n K) (K (.tp []) h n)
noncomputable def evOps (ops : List Oper) (l : List Oper) : Env → H → Id → KC → R :=
  List.rec (motive := fun _ => Env → H → Id → KC → R) (fun env h n k => k env h n) (fun o _ ih env h n k => evOp1 T M cf ops o env h n fun env h n => ih env h n k) l
end
section
variable {P : Program} {T : Tab} {M : MTab} {cf : FuncId → Fn1} (O : Ok P T M cf) {N : Nat}
theorem op_wpX {o : Oper} {env : Env} {h h' : H} {n n' : Id} {v : V} (ho : XOp P o.op (evE env) h n v h' n') {F : Fx} {ι0 : Io} {a : Act} {w : World} (hr : XRel N F ι0 env h n a w) {K' : Act → World → Prop} {Q' : Exit → Act → World → Prop}
    (hk : ∀ a w, XRel N F ι0 (putE o.dst v env) h' n' a w → K' a w) : o.wp P a w K' Q' := by
  obtain ⟨h1, h2, h3, ι, he, hb, hv⟩ := hr
  have := ho o rfl F ι a.eval w hb (fun x _ => evE_ok hv x)
  unfold Oper.wp
  generalize (execOp a.eval o).run P w = r at *
  have up : ∀ {ι' : Io}, Ext ι ι' → ∀ t, RV ι' (rd env t) (a.tmps.getD t undef) := fun he' t => (hv t).mono he'
  cases r with
  | ok nx w' =>
    cases nx with
    | value u =>
      obtain ⟨ι', e1, hb', hu⟩ := this
      exact hk _ _ (xrel_put h1 h2 h3 (he.trans e1) hb' (up e1) o.dst hu)
    | skip =>
      obtain ⟨rfl, ι', e1, hb'⟩ := this
      exact hk _ _ (xrel_put h1 h2 h3 (he.trans e1) hb' (up e1) o.dst trivial)
    | enter f args =>
      refine Calls.mono this fun e w'' hq => ?_
      obtain ⟨u, rfl, ι', e1, hb', hu⟩ := hq
      exact hk _ _ (xrel_put h1 h2 h3 (he.trans e1) hb' (up e1) o.dst hu)
    | _ => exact this.elim
  | halt _ _ => exact this.elim
theorem guard_is {ops : List Oper} {j : Nat} {env : Env} {a : Act} {ι : Io} (hv : ∀ t, RV ι (rd env t) (a.tmps.getD t undef)) :
    (∀ c, guardV ops env j = .b c → yielded ops.toArray a.tmps j = some c) ∧ (guardV ops env j = .tp [] → yielded ops.toArray a.tmps j = none) := by
  unfold guardV yielded
  rw [getL_eq]
  have e : ops.toArray[j]? = ops[j]? := by simp
  rw [e]
  cases ho : ops[j]? with
  | none => exact ⟨fun c h => by simp at h, fun h => by simp at h⟩
  | some o =>
    simp only [Option.bind_some]
    cases hd : o.dst with
    | none => exact ⟨fun c h => by simp at h, fun h => by simp at h⟩
    | some d =>
      simp only [Option.bind_some]
      have hvd := hv d
      constructor
      · intro c hc
        rw [hc] at hvd
        have hvd : a.tmps.getD d undef = .bool c := hvd
        have hlt : d < a.tmps.size := by
          by_cases h : d < a.tmps.size
          · exact h
          · simp [Array.getD, h, undef] at hvd
        have : a.tmps[d]? = some (.bool c) := by
          rw [Array.getD_eq_getD_getElem?] at hvd
          simp [hlt] at hvd ⊢; exact hvd
        rw [this]
      · intro hc
        rw [hc] at hvd
        obtain ⟨us, e1, e2⟩ := hvd
        have e2 : us = [] := e2
        subst e2
        rw [Array.getD_eq_getD_getElem?] at e1
        cases hg : a.tmps[d]? with
        | none => rfl
        | some x => rw [hg] at e1; simp at e1; rw [e1]
include O in
theorem evOp1_ok {ops : List Oper} {o : Oper} {env : Env} {h : H} {n : Id} {k : KC} {r : V} (hr : evOp1 T M cf ops o env h n k = some r) : ∃ v h' n', k (putE o.dst v env) h' n' = some r ∧ ∀ F ι0 a w (rest : List Oper) (Q : Exit → Act → World → Prop), XRel N F ι0 env h n a w →
    (∀ a w, XRel N F ι0 (putE o.dst v env) h' n' a w → wpList P ops.toArray Q rest a w) → wpList P ops.toArray Q (o :: rest) a w := by
  have yes : ∀ {k : KV}, evOp T M cf o.op (evE env) h n k = some r → ∃ v h' n', k v h' n' = some r ∧ ∀ F ι0 a w (rest : List Oper) (Q : Exit → Act → World → Prop), XRel N F ι0 env h n a w → Region.wanted o (yielded ops.toArray a.tmps) = true →
      (∀ a w, XRel N F ι0 (putE o.dst v env) h' n' a w → wpList P ops.toArray Q rest a w) → wpList P ops.toArray Q (o :: rest) a w := fun {k} hr => by
    obtain ⟨v, h', n', h1, h2⟩ := evOp_ok O o.op _ hr
    refine ⟨v, h', n', h1, fun F ι0 a w rest Q hx hw hk => ?_⟩
    unfold wpList
    rw [if_pos hw]
    exact .inl (op_wpX h2 hx hk)
  have no : ∀ F ι0 a w (rest : List Oper) (Q : Exit → Act → World → Prop), XRel N F ι0 env h n a w → Region.wanted o (yielded ops.toArray a.tmps) = false →
      (∀ a w, XRel N F ι0 (putE o.dst (.tp []) env) h n a w → wpList P ops.toArray Q rest a w) → wpList P ops.toArray Q (o :: rest) a w := fun F ι0 a w rest Q hx hw hk => by
    unfold wpList
    rw [if_neg (by rw [hw]; exact Bool.false_ne_true)]
    obtain ⟨h1, h2, h3, ι, he, hb, hv⟩ := hx
    exact hk _ _ (xrel_put h1 h2 h3 he hb hv o.dst (v := .tp []) ⟨[], rfl, rfl⟩)
  unfold evOp1 at hr
  split at hr
  · rename_i hg
    obtain ⟨v, h', n', h1, h2⟩ := yes hr
    exact ⟨v, h', n', h1, fun F ι0 a w rest Q hx hk => h2 F ι0 a w rest Q hx (by simp [Region.wanted, hg]) hk⟩
  · rename_i j want hg
    unfold jp gdB at hr
    split at hr
    · rename_i c hc
      have hwant : ∀ F ι0 a w, XRel N F ι0 env h n a w → Region.wanted o (yielded ops.toArray a.tmps) = (c == want) := fun F ι0 a w hx => by
        obtain ⟨_, _, _, ι, _, _, hv⟩ := hx
        simp only [Region.wanted, hg, (guard_is hv).1 c hc]
        cases c <;> cases want <;> rfl
      have e : cond c want (notB want) = (c == want) := by cases c <;> cases want <;> rfl
      rw [e] at hr
      cases hcw : (c == want) with
      | true =>
        rw [hcw] at hr
        obtain ⟨v, h', n', h1, h2⟩ := yes (k := fun (v : V) (h : H) (n : Id) => k (putE o.dst v env) h n) hr
        exact ⟨v, h', n', h1, fun F ι0 a w rest Q hx hk => h2 F ι0 a w rest Q hx ((hwant F ι0 a w hx).trans hcw) hk⟩
      | false =>
        rw [hcw] at hr
        exact ⟨_, _, _, hr, fun F ι0 a w rest Q hx hk => no F ι0 a w rest Q hx ((hwant F ι0 a w hx).trans hcw) hk⟩
    · rename_i hc
      refine ⟨_, _, _, hr, fun F ι0 a w rest Q hx hk => no F ι0 a w rest Q hx ?_ hk⟩
      obtain ⟨_, _, _, ι, _, _, hv⟩ := hx
      simp only [Region.wanted, hg, (guard_is hv).2 hc]; rfl
    · cases hr
include O in
theorem evOps_ok {ops : List Oper} : ∀ {l : List Oper} {env : Env} {h : H} {n : Id} {k : KC} {r : V}, evOps T M cf ops l env h n k = some r → ∃ env' h' n', k env' h' n' = some r ∧ ∀ F ι0 a w (Q : Exit → Act → World → Prop), XRel N F ι0 env h n a w →
    (∀ a w, XRel N F ι0 env' h' n' a w → Q .normal a w) → wpList P ops.toArray Q l a w
  | [], env, h, n, k, r, hr => ⟨env, h, n, hr, fun F ι0 a w Q hx hk => hk a w hx⟩
  | o :: l, env, h, n, k, r, hr => by
    have hr' : evOp1 T M cf ops o env h n (fun env h n => evOps T M cf ops l env h n k) = some r := hr
    obtain ⟨v, h1, n1, e1, e2⟩ := evOp1_ok (N := N) O hr'
    obtain ⟨env2, h2, n2, e3, e4⟩ := evOps_ok e1
    exact ⟨env2, h2, n2, e3, fun F ι0 a w Q hx hk => e2 F ι0 a w l Q hx fun a w hx => e4 F ι0 a w Q hx hk⟩
include O in
theorem region_ok {id : Nat} {ops : Array Oper} {env : Env} {h : H} {n : Id} {k : KC} {r : V} (hr : evOps T M cf ops.toList ops.toList env h n k = some r) : ∃ env' h' n', k env' h' n' = some r ∧ WX P N (.region id ops false) env h n .normal env' h' n' := by
  obtain ⟨env', h', n', h1, h2⟩ := evOps_ok (N := N) O hr
  refine ⟨env', h', n', h1, fun F ι0 a w hx => ?_⟩
  refine wp_region_list ?_
  have := h2 F ι0 a w (XLift N F ι0 .normal env' h' n') hx fun a w hx => ⟨rfl, hx⟩
  simpa using this
end
def VT (l : List Nat) : Type := List.rec Unit (fun _ _ ih => V × ih) l
noncomputable def prj (l : List Nat) (env : Env) : VT l := List.rec (motive := VT) () (fun t _ ih => (rd env t, ih)) l
noncomputable def emb (N : Nat) (l : List Nat) : VT l → Env := List.rec (motive := fun l => VT l → Env) (fun _ => repL .j N) (fun t _ ih st => setL st.1 t (ih st.2)) l
noncomputable def embL (N : Nat) (l : List Nat) : List V → Env := List.rec (motive := fun _ => List V → Env) (fun _ => repL .j N) (fun t _ ih st => List.casesOn st (repL .j N) fun v r => setL v t (ih r)) l
theorem emb_len (N : Nat) : ∀ (l : List Nat) (st : VT l), (emb N l st).length = N
  | [], st => by show (repL V.j N).length = N; rw [repL_eq]; simp
  | t :: l, st => by show (setL st.1 t (emb N l st.2)).length = N; rw [setL_eq, List.length_set, emb_len N l st.2]
theorem embL_len (N : Nat) : ∀ (l : List Nat) (st : List V), (embL N l st).length = N
  | [], st => by show (repL V.j N).length = N; rw [repL_eq]; simp
  | t :: l, [] => by show (repL V.j N).length = N; rw [repL_eq]; simp
  | t :: l, v :: st => by show (setL v t (embL N l st)).length = N; rw [setL_eq, List.length_set, embL_len N l st]
theorem rd_rep (N t : Nat) : rd (repL .j N) t = .j := by
  unfold rd
  rw [getL_eq, repL_eq, List.getElem?_replicate]
  split <;> (rename_i h; split at h) <;> simp_all
theorem rd_emb (N : Nat) (env : Env) (t : Nat) : ∀ (l : List Nat), rd (emb N l (prj l env)) t = .j ∨ rd (emb N l (prj l env)) t = rd env t
  | [] => .inl (rd_rep N t)
  | s :: l => by
    have e : emb N (s :: l) (prj (s :: l) env) = setL (rd env s) s (emb N l (prj l env)) := rfl
    rw [e, rd_set]
    split
    · rename_i h; right; rw [h.1]
    · exact rd_emb N env t l
theorem XRel.emb {N : Nat} {F : Fx} {ι0 : Io} {env : Env} {h : H} {n : Id} {a : Act} {w : World} (hx : XRel N F ι0 env h n a w) (l : List Nat) : XRel N F ι0 (emb N l (prj l env)) h n a w := by
  obtain ⟨h1, h2, h3, ι, he, hb, hv⟩ := hx
  refine ⟨h1, h2, by rw [emb_len]; exact Nat.le_refl _, ι, he, hb, fun t => ?_⟩
  rcases rd_emb N env t l with e | e <;> rw [e]
  · trivial
  · exact hv t
inductive Ex where | ret | exit (i : Nat) | goto (l : Nat)
def Ex.to : Ex → Exit
  | .ret => .ret | .exit i => .exit i | .goto l => .goto l
inductive An where
  | z
  | q (a b : An)
  | s (l : List Nat) (a b : An)
  | c (a b : An)
  | b (l : List Nat) (a : An)
  | l (l : List Nat) (a : An)
  | o (a : An)
  | g (lab : Nat) (l l2 : List Nat) (a r : An)
abbrev Gam := Ex → List Nat
abbrev KX (Γ : Gam) := (e : Ex) → VT (Γ e) → H → Id → R
noncomputable def upE (Γ : Gam) (i : Nat) (l : List Nat) : Gam := fun e => match e with | .exit j => cond (Nat.beq j i) l (Γ (.exit j)) | e => Γ e
noncomputable def upG (Γ : Gam) (i : Nat) (l : List Nat) : Gam := fun e => match e with | .goto j => cond (Nat.beq j i) l (Γ (.goto j)) | e => Γ e
abbrev EC := Code → An → (Γ : Gam) → Env → H → Id → KC → KX Γ → R
abbrev DR := List Oper → Env → H → Id → KC → R
section
variable (T : Tab) (M : MTab) (cf : FuncId → Fn1) (dr : DR) (N fu : Nat)
noncomputable def kxE {Γ : Gam} (i : Nat) (l : List Nat) (K : VT l → H → Id → R) (kx : KX Γ) : KX (upE Γ i l) := fun e => match e with
  | .exit j => Bool.rec (motive := fun b => VT (cond b l (Γ (.exit j))) → H → Id → R) (kx (.exit j)) K (Nat.beq j i)
  | .ret => kx .ret
  | .goto j => kx (.goto j)
noncomputable def kxG {Γ : Gam} (i : Nat) (l : List Nat) (lo : VT l → H → Id → R) (kx : KX Γ) : KX (upG Γ i l) := fun e => match e with
  | .goto j => Bool.rec (motive := fun b => VT (cond b l (Γ (.goto j))) → H → Id → R) (fun _ _ _ => none) lo (Nat.beq j i)
  | .ret => kx .ret
  | .exit j => kx (.exit j)
noncomputable def kxO {Γ : Gam} (kx : KX Γ) : KX Γ := fun e => match e with | .exit j => kx (.exit j) | .ret => kx .ret | .goto _ => fun _ _ _ => none
noncomputable def stepC (ih : EC) : EC := fun c an Γ env h n kn kx =>
  match c, an with
  | .skip, _ => kn env h n
  | .label _, _ => kn env h n
  | .ret, _ => kx .ret (prj (Γ .ret) env) h n
  | .exit i, _ => kx (.exit i) (prj (Γ (.exit i)) env) h n
  | .goto i, _ => kx (.goto i) (prj (Γ (.goto i)) env) h n
  | .region _ ops false, _ => evOps T M cf ops.toList ops.toList env h n kn
  | .region _ ops true, _ => dr ops.toList env h n kn
  | .seq a b, .q x y => ih a x Γ env h n (fun env h n => ih b y Γ env h n kn kx) kx
  | .seq a b, .s l x y => jp (fun (st : VT l) (h : H) (n : Id) => ih b y Γ (emb N l st) h n kn kx) fun K => ih a x Γ env h n (fun env h n => K (prj l env) h n) kx
  | .cond t a b, .c x y => brB (evE env t) (ih a x Γ env h n kn kx) (ih b y Γ env h n kn kx)
  | .block i a, .b l x => jp (fun (st : VT l) (h : H) (n : Id) => kn (emb N l st) h n) fun K => ih a x (upE Γ i l) env h n (fun env h n => K (prj l env) h n) (kxE i l K kx)
  | .loop a, .l l x => Nat.rec (motive := fun _ => VT l → H → Id → R) (fun _ _ _ => none) (fun _ lo st h n => ih a x Γ (emb N l st) h n (fun env h n => lo (prj l env) h n) kx) fu (prj l env) h n
  | .scope a, .o x => ih a x Γ env h n kn (kxO kx)
  | .scope a, .g lab l l2 x r => (match findLabel a lab with
    | none => none
    | some rest => jp (fun (st : VT l2) (h : H) (n : Id) => kn (emb N l2 st) h n) fun K =>
      jp (Nat.rec (motive := fun _ => VT l → H → Id → R) (fun _ _ _ => none) (fun _ lo st h n => ih rest r (upG Γ lab l) (emb N l st) h n (fun env h n => K (prj l2 env) h n) (kxG lab l lo kx)) fu) fun lo =>
      ih a x (upG Γ lab l) env h n (fun env h n => K (prj l2 env) h n) (kxG lab l lo kx))
  | _, _ => none
noncomputable def evC (d : Nat) : EC := Nat.rec (motive := fun _ => EC) (fun _ _ _ _ _ _ _ _ => none) (fun _ ih => stepC T M cf dr N fu ih) d
end
def CS (P : Program) (N : Nat) (c : Code) (Γ : Gam) (env : Env) (h : H) (n : Id) (kn : KC) (kx : KX Γ) (r : R) : Prop :=
  ∀ x, r = some x → (∃ env' h' n', kn env' h' n' = some x ∧ WX P N c env h n .normal env' h' n') ∨ ∃ e st h' n', kx e st h' n' = some x ∧ WX P N c env h n e.to (emb N (Γ e) st) h' n'
def DrOk (P : Program) (N : Nat) (dr : DR) : Prop := ∀ id ops env h n k r, dr ops env h n k = some r → ∃ env' h' n', k env' h' n' = some r ∧ WX P N (.region id ops.toArray true) env h n .normal env' h' n'
end Go.Proofs.Nw.X
end
