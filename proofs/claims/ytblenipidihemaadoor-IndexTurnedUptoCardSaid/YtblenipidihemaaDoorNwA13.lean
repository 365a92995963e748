/- Bundle 13: NwK32, NwK33, NwQH1, NwK34, NwQI1, NwQI2, NwQI3, NwK35. -/
import Derived.Test.YtblenipidihemaaDoorNwA12
import Derived.WideKeyRuns
import Derived.Lib.Bytealg
section
/- K32: maps of one's own: keys of other kinds, any values. -/
open Go Go.RowKit Go.MapKept
set_option linter.unusedVariables false
set_option linter.unusedSimpArgs false
namespace Go.Proofs.Nw.K

theorem eqStrs_iff : ∀ (a b : List ByteArray), a.length = b.length → eqStrs a b = decide (a = b)
  | [], [], _ => by simp [eqStrs]
  | x :: a, y :: b, h => by
    have ih := eqStrs_iff a b (by simpa using h)
    unfold eqStrs
    rw [ih]
    by_cases e : x = y
    · subst e; simp
    · have : (x.toList == y.toList) = false := by
        rw [beq_eq_false_iff_ne]
        intro e2
        exact e (by
          rw [ByteArray.toList_eq, ByteArray.toList_eq] at e2
          cases x; cases y; simp at e2; subst e2; rfl)
      rw [this]; simp [e]
  | [], _ :: _, h => by simp at h
  | _ :: _, [], h => by simp at h

section
universe u
variable {α : Type} {β : Type u} [DecidableEq α]
def fndM (k : α) : List (α × β) → Option Nat
  | [] => none
  | (a, _) :: r => if k = a then some 0 else (fndM k r).map (· + 1)
def lookM (z : β) (k : α) : List (α × β) → β
  | [] => z
  | (a, d) :: r => if k = a then d else lookM z k r
def updM (k : α) (d : β) : List (α × β) → List (α × β)
  | [] => [(k, d)]
  | (a, x) :: r => if k = a then (a, d) :: r else (a, x) :: updM k d r
theorem fndM_none {k : α} {z d : β} : ∀ {l : List (α × β)}, fndM k l = none → lookM z k l = z ∧ updM k d l = l ++ [(k, d)] ∧ ∀ p ∈ l, p.1 ≠ k
  | [], _ => ⟨rfl, rfl, fun p h => by cases h⟩
  | (a, x) :: r, h => by
    unfold fndM at h
    split at h
    · cases h
    · rename_i hne
      have := fndM_none (z := z) (d := d) (l := r) (by simpa using h)
      refine ⟨by simp only [lookM, if_neg hne]; exact this.1, by simp only [updM, if_neg hne, this.2.1]; rfl, fun p hp => ?_⟩
      rcases List.mem_cons.1 hp with rfl | hp
      · exact fun e => hne e.symm
      · exact this.2.2 p hp
theorem fndM_some {k : α} {z d : β} : ∀ {l : List (α × β)} {i : Nat}, fndM k l = some i → ∃ x, l[i]? = some (k, x) ∧ lookM z k l = x ∧ updM k d l = l.set i (k, d)
  | [], i, h => by cases h
  | (a, x) :: r, i, h => by
    unfold fndM at h
    split at h
    · rename_i he
      cases h
      subst he
      exact ⟨x, rfl, by simp [lookM], by simp [updM]⟩
    · rename_i hne
      obtain ⟨j, hj, rfl⟩ := Option.map_eq_some_iff.1 h
      obtain ⟨y, h1, h2, h3⟩ := fndM_some (z := z) (d := d) hj
      exact ⟨y, by simpa using h1, by simp only [lookM, if_neg hne]; exact h2, by simp only [updM, if_neg hne, h3]; rfl⟩
end

/-- what keys of a type come to -/
structure KeyR (P : Program) (kt : TypeId) {α : Type} [DecidableEq α] (kv : α → Value) : Prop where
  check : ∀ w em a, (Instr.checkKey em 10000 kt (kv a)).run P w = .ok () w
  find : ∀ w a (m : List (α × AV)) (es : List MapEntry) (n : Nat), es.length = m.length → (∀ (i : Nat) (me : MapEntry) p, es[i]? = some me → m[i]? = some p → me.key = kv p.1) →
    n = 0 → (fndM a m = none ∧ (Instr.findKey kt (kv a) es).run P w = .ok none w) ∨ ∃ i me, fndM a m = some i ∧ es[i]? = some me ∧ (Instr.findKey kt (kv a) es).run P w = .ok (some (i, me.val)) w
  stays : ∀ w a, (Instr.keyThatStays (kv a) (kv a)).run P w = .ok (kv a) w

theorem asking {P : Program} {kt : TypeId} {α : Type} [DecidableEq α] {kv : α → Value} (heq : ∀ w a b, (Op.equal kt (kv a) (kv b)).run P w = .ok (decide (a = b)) w) (w : World) (a : α) :
    ∀ (m : List (α × AV)) (es : List MapEntry) (n : Nat), es.length = m.length → (∀ (i : Nat) (me : MapEntry) p, es[i]? = some me → m[i]? = some p → me.key = kv p.1) →
      (fndM a m = none ∧ (Instr.findAsking kt (kv a) es n).run P w = .ok none w) ∨ ∃ i me, fndM a m = some i ∧ es[i]? = some me ∧ (Instr.findAsking kt (kv a) es n).run P w = .ok (some (n + i, me.val)) w
  | [], [], n, _, _ => .inl ⟨rfl, by simp [Instr.findAsking]⟩
  | (b, d) :: r, e :: es, n, hl, hk => by
    have h0 : e.key = kv b := hk 0 e (b, d) rfl rfl
    have h1 := heq w a b
    by_cases he : a = b
    · refine .inr ⟨0, e, by simp [fndM, he], rfl, ?_⟩
      rw [decide_eq_true he] at h1
      simp [Instr.findAsking, h0, h1]
    · rw [decide_eq_false he] at h1
      rcases asking heq w a r es (n + 1) (by simpa using hl) (fun i me p h1 h2 => hk (i + 1) me p (by simpa using h1) (by simpa using h2)) with ⟨h2, h3⟩ | ⟨i, me, h2, h3, h4⟩
      · exact .inl ⟨by simp [fndM, he, h2], by simp [Instr.findAsking, h0, h1, h3]⟩
      · exact .inr ⟨i + 1, me, by simp [fndM, he, h2], by simpa using h3, by simp [Instr.findAsking, h0, h1, h4]; omega⟩
  | [], _ :: _, _, hl, _ => by simp at hl
  | _ :: _, [], _, hl, _ => by simp at hl

theorem strFields_each {P : Program} : ∀ (fs : List Field) (n : Nat), strFields P n fs = true → ∀ f ∈ fs, f.name ≠ "_" ∧ P.underlying f.type = some .string ∧ f.offset < n + fs.length
  | [], _, _, f, hf => by cases hf
  | g :: fs, n, h, f, hf => by
    unfold strFields at h
    simp only [Bool.and_eq_true, bne_iff_ne, beq_iff_eq] at h
    obtain ⟨⟨⟨e1, e2⟩, e3⟩, e4⟩ := h
    rcases List.mem_cons.1 hf with rfl | hf
    · refine ⟨e1, ?_, by simp only [List.length_cons]; omega⟩
      split at e3
      · assumption
      · cases e3
    · obtain ⟨h1, h2, h3⟩ := strFields_each fs (n + 1) e4 f hf
      exact ⟨h1, h2, by simp only [List.length_cons]; omega⟩

theorem keyR_strs {P : Program} {kt : TypeId} {n : Nat} (ht : strStruct P kt = some n) {α : Type} [DecidableEq α] (ks : α → List ByteArray) (hl : ∀ a, (ks a).length = n) (inj : ∀ a b, ks a = ks b → a = b) :
    KeyR P kt (fun a => .agg ((ks a).map Value.string).toArray) := by
  unfold strStruct at ht
  split at ht <;> try cases ht
  rename_i fs hu
  split at ht <;> try cases ht
  rename_i hc
  simp only [Bool.and_eq_true, Bool.not_eq_true'] at hc
  obtain ⟨⟨c1, c2⟩, c3⟩ := hc
  have hS : P.underlying kt = some (.struct (P.fieldsOf kt)) := by simp [Program.fieldsOf, hu]
  have hfs : P.fieldsOf kt = fs := by simp [Program.fieldsOf, hu]
  have heq : ∀ w a b, (Op.equal kt (.agg ((ks a).map Value.string).toArray) (.agg ((ks b).map Value.string).toArray)).run P w = .ok (decide (a = b)) w := fun w a b => by
    have hr := eqFields_run (P := P) (w := w) 9998 fs.toList 0 [] [] (ks a) (ks b) c1 rfl rfl (by simpa using hl a) (by simpa using hl b)
    simp only [List.nil_append] at hr
    have e1 : eqStrs (ks a) (ks b) = decide (a = b) := by
      rw [eqStrs_iff _ _ (by rw [hl, hl])]
      exact decide_eq_decide.2 ⟨inj a b, fun e => by rw [e]⟩
    rw [e1] at hr
    unfold Op.equal Op.maxDepth
    rw [show (10000 : Nat) = 9999 + 1 from rfl, run_equalIn_agg w 9999 kt _ _ hS c2, hfs]; exact hr
  refine ⟨fun w em a => ?_, fun w a m es n h1 h2 h3 => ?_, fun w a => ?_⟩
  · have each := strFields_each fs.toList 0 c1
    have hcs : ∀ j, j < 0 + fs.toList.length → ∃ z, (((ks a).map Value.string).toArray)[j]? = some (.string z) := fun j hj => by
      have : j < (ks a).length := by rw [hl a]; simpa using hj
      exact ⟨(ks a)[j], by simp [this]⟩
    rw [show (10000 : Nat) = 9999 + 1 from rfl, Instr.checkKey]
    simp only [Sem.run_bind, run_underlying hu, Result.andThen_ok]
    rw [← Array.forIn_toList]
    have each2 : ∀ f ∈ fs.toList, f.name ≠ "_" ∧ P.underlying f.type = some .string ∧ ∃ z, (((ks a).map Value.string).toArray)[f.offset]? = some (.string z) := fun f hf => by
      obtain ⟨h1, h2, h3⟩ := each f hf
      exact ⟨h1, h2, hcs _ h3⟩
    clear each hcs
    generalize ((ks a).map Value.string).toArray = cs at each2 ⊢
    generalize fs.toList = L at each2
    induction L with
    | nil => simp
    | cons f L ih =>
      obtain ⟨hn, hs, z, hz⟩ := each2 f (by simp)
      have p1 : (part f.type cs f.offset).run P w = .ok (.string z) w := by
        simp only [part, isAgg, Sem.run_bind, run_underlying hs, Result.andThen_ok, Sem.run_pure, Bool.false_eq_true, if_false, hz]
      have p2 : (Instr.checkKey em 9999 f.type (.string z)).run P w = .ok () w := Go.MapKept.run_checkKey (d := .string) (k := .string z) hs trivial em 9998
      simp only [List.forIn_cons, Sem.run_bind, hn, ne_eq, not_false_eq_true, if_true, Result.andThen_ok, p1, p2, Sem.run_pure]
      exact ih (fun y hy => each2 y (by simp [hy]))
  · subst h3
    have hw : (match P.underlying kt with | some (.array _ _) | some (.struct _) => true | _ => false) = true := by rw [hu]
    rw [run_findKey_eq w hw]
    simpa using asking (kv := fun a => .agg ((ks a).map Value.string).toArray) heq w a m es 0 h1 h2
  · have hs : Instr.sameBits 10000 (.agg ((ks a).map Value.string).toArray) (.agg ((ks a).map Value.string).toArray) = true := by
      show Instr.sameBits (9999 + 1) _ _ = true
      simp only [Instr.sameBits, beq_self_eq_true, Bool.true_and, List.all_eq_true]
      intro p hp
      obtain ⟨i, hi, e⟩ := List.getElem_of_mem hp
      rw [List.getElem_zip] at e
      rw [← e]
      simp only [List.getElem_map, Instr.sameBits]
      exact (bytes_beq _ _).2 rfl
    simp [Instr.keyThatStays, hs]

def ents {α : Type} (kv : α → Value) (m : List (α × AV)) : List (Value × AV) := m.map fun p => (kv p.1, p.2)
/-- an entry is there, now -/
def entM {α : Type} [DecidableEq α] (z : AV) (k : α) (m : List (α × AV)) : List (α × AV) := match fndM k m with | some _ => m | none => m ++ [(k, z)]
def idxM {α : Type} [DecidableEq α] (k : α) (m : List (α × AV)) : Nat := (fndM k m).getD m.length

section
variable {P : Program} {E : Operand → AV} {st : List AO} {α : Type} [DecidableEq α] {kv : α → Value} {kt e : TypeId} {zv : Value} {za : AV}

structure MapT (P : Program) (t kt e : TypeId) (zv : Value) (za : AV) : Prop where
  ut : P.underlying t = some (.map kt e)
  zero : ∀ w, (zeroValue e).run P w = .ok zv w
  rep : ∀ σ gh st, RepA σ gh st zv za
  one : zv.oneCell' = true

/-- a map, and where a key stands -/
theorem map_at {w0 : World} {σ0 σ gh w} (hb : Base w0 σ0 σ gh st w) {s : Nat} {m : List (α × AV)} (K : KeyR P kt kv) (hst : st[s]? = some (.mp (ents kv m))) {g : Value} (hg : gh[s]? = some g) (k : α) :
    ∃ r entries, g = .map (some r) ∧ w0.heap.size ≤ r ∧ w.heap[r]? = some (.map entries entries.size) ∧ entries.size = m.length ∧
      (∀ (i : Nat) p, m[i]? = some p → ∃ me : MapEntry, entries[i]? = some me ∧ me.key = kv p.1 ∧ RepA σ gh st me.val p.2) ∧ Uns σ r ∧ (∀ (i : Nat) (me : MapEntry), entries[i]? = some me → me.born = i ∧ me.val.oneCell' = true) ∧
      ((fndM k m = none ∧ (Instr.findKey kt (kv k) entries.toList).run P w = .ok none w) ∨ ∃ i me, fndM k m = some i ∧ entries[i]? = some me ∧ (Instr.findKey kt (kv k) entries.toList).run P w = .ok (some (i, me.val)) w) := by
  obtain ⟨r, entries, clock, e1, e2, e3, e4, e5, e6, e7, e8⟩ := hb.obj s _ _ hst hg
  subst e7
  have hl : entries.size = m.length := by simpa [ents] using e4
  have h5 : ∀ (i : Nat) p, m[i]? = some p → ∃ me : MapEntry, entries[i]? = some me ∧ me.key = kv p.1 ∧ RepA σ gh st me.val p.2 := fun i p hp => e5 i (kv p.1) p.2 (by simp [ents, hp])
  refine ⟨r, entries, e1, e2, e3, hl, h5, e6, e8, ?_⟩
  rcases K.find w k m entries.toList 0 (by simpa using hl) (fun i me p h1 h2 => by
    obtain ⟨me', h3, h4, _⟩ := h5 i p h2
    rw [Array.getElem?_toList] at h1
    rw [h1] at h3; cases h3; exact h4) rfl with h | ⟨i, me, h1, h2, h3⟩
  · exact .inl h
  · exact .inr ⟨i, me, h1, by rwa [Array.getElem?_toList] at h2, h3⟩

theorem op_lookupG (t : TypeId) (x i : Operand) (s : Nat) (m : List (α × AV)) (k : α) (K : KeyR P kt kv) (M : MapT P t kt e zv za) (hx : E x = .omap s) (hst : st[s]? = some (.mp (ents kv m))) (hi : ∀ σ gh st v, RepA σ gh st v (E i) → v = kv k) :
    OpS P (.lookup t x i false) E st (lookM za k m) st := by
  refine op_pure fun o ho w0 σ0 σ gh ρ w hb hρ => ?_
  have hx' := hρ x (by simp [Op.operands])
  have hi' := hi _ _ _ _ (hρ i (by simp [Op.operands]))
  rw [hx] at hx'
  obtain ⟨hg, r0, hr⟩ := hx'
  obtain ⟨r, entries, e1, e2, e3, e4, e5, e6, e7, e8⟩ := map_at hb K hst hg k
  rcases e8 with ⟨f1, f2⟩ | ⟨j, me, f1, f2, f3⟩
  · refine ⟨zv, ?_, ?_⟩
    · simp [execOp, ho, e1, hi', Instr.lookup, run_underlying M.ut, Go.MapKept.run_getObj_map e3, K.check, f2, Result.andThen, M.zero]
    · rw [(fndM_none (z := za) (d := za) f1).1]; exact M.rep _ _ _
  · obtain ⟨y, g1, g2, _⟩ := fndM_some (z := za) (d := za) f1
    obtain ⟨me', g3, _, g4⟩ := e5 j _ g1
    rw [f2] at g3; cases g3
    refine ⟨me.val, ?_, ?_⟩
    · simp [execOp, ho, e1, hi', Instr.lookup, run_underlying M.ut, Go.MapKept.run_getObj_map e3, K.check, f3, Result.andThen]
    · rw [g2]; exact g4

/-- .. and whether it is there, where it holds data -/
theorem op_lookupG2 (t : TypeId) (x i : Operand) (s : Nat) (m : List (α × AV)) (k : α) (K : KeyR P kt kv) (M : MapT P t kt e zv za) (d : DV) (hd : lookM za k m = .v d) (hx : E x = .omap s) (hst : st[s]? = some (.mp (ents kv m))) (hi : ∀ σ gh st v, RepA σ gh st v (E i) → v = kv k) :
    OpS P (.lookup t x i true) E st (.tup [d, .one (.sc (.bool (fndM k m).isSome))]) st := by
  refine op_pure fun o ho w0 σ0 σ gh ρ w hb hρ => ?_
  have hx' := hρ x (by simp [Op.operands])
  have hi' := hi _ _ _ _ (hρ i (by simp [Op.operands]))
  rw [hx] at hx'
  obtain ⟨hg, r0, hr⟩ := hx'
  obtain ⟨r, entries, e1, e2, e3, e4, e5, e6, e7, e8⟩ := map_at hb K hst hg k
  have two : ∀ (u : Value) (b : Bool), RepV σ u d → RepA σ gh st (.tuple #[u, .bool b]) (.tup [d, .one (.sc (.bool b))]) := fun u b h =>
    ⟨[u, .bool b], rfl, rfl, fun i v d' hv hd' => by
      match i, hv, hd' with
      | 0, hv, hd' => simp at hv hd'; subst hv hd'; exact h
      | 1, hv, hd' => simp at hv hd'; subst hv hd'; exact Rep.sc rfl
      | i + 2, hv, hd' => simp at hv⟩
  rcases e8 with ⟨f1, f2⟩ | ⟨j, me, f1, f2, f3⟩
  · refine ⟨.tuple #[zv, .bool false], ?_, ?_⟩
    · simp [execOp, ho, e1, hi', Instr.lookup, run_underlying M.ut, Go.MapKept.run_getObj_map e3, K.check, f2, Result.andThen, M.zero]
    · rw [f1]
      rw [(fndM_none (z := za) (d := za) f1).1] at hd
      have := M.rep σ gh st
      rw [hd] at this
      exact two _ _ this
  · obtain ⟨y, g1, g2, _⟩ := fndM_some (z := za) (d := za) f1
    obtain ⟨me', g3, _, g4⟩ := e5 j _ g1
    rw [f2] at g3; cases g3
    refine ⟨.tuple #[me.val, .bool true], ?_, ?_⟩
    · simp [execOp, ho, e1, hi', Instr.lookup, run_underlying M.ut, Go.MapKept.run_getObj_map e3, K.check, f3, Result.andThen]
    · rw [f1]
      rw [g2] at hd
      rw [hd] at g4
      exact two _ _ g4

omit [DecidableEq α] in
/-- a map turns -/
theorem map_turn {w0 : World} {σ0 σ gh w} (hb : Base w0 σ0 σ gh st w) {s r : Nat} {es0 : List (Value × AV)} (hst : st[s]? = some (.mp es0)) {g : Value} (hg : gh[s]? = some g) (hr : g = .map (some r)) (hbr : w0.heap.size ≤ r) {entries0 : Array MapEntry} (hh : w.heap[r]? = some (.map entries0 entries0.size)) (hu : Uns σ r)
    (entries : Array MapEntry) (m : List (α × AV)) (hl : entries.size = m.length) (ho : ∀ (i : Nat) (me : MapEntry), entries[i]? = some me → me.born = i ∧ me.val.oneCell' = true)
    (he : ∀ (i : Nat) p, m[i]? = some p → ∃ me : MapEntry, entries[i]? = some me ∧ me.key = kv p.1 ∧ RepA σ gh st me.val p.2) :
    Fut w0 σ0 σ gh st σ gh (st.set s (.mp (ents kv m))) { w with heap := w.heap.setIfInBounds r (.map entries entries.size) } := by
  have hrlt : r < w.heap.size := (Array.getElem?_eq_some_iff.1 hh).1
  have keep : ∀ v a, RepA σ gh st v a → RepA σ gh (st.set s (.mp (ents kv m))) v a := fun v a h' => h'.set hst _ (fun k' e' sz' xs' heq => by cases heq)
  have := hb.turn (w' := { w with heap := w.heap.setIfInBounds r (.map entries entries.size) }) hst hg (by simp) ⟨rfl, rfl, rfl, by simp, fun j _ hj => by
      have hne : r ≠ j := fun hh => hj (by rw [hr]; simp [blkOf, hh])
      simp [hne]⟩ g (.mp (ents kv m)) (fun b hb' => .inl hb')
    ⟨r, entries, entries.size, hr, hbr, by simp [hrlt], by simpa [ents] using hl, fun i k d hk => by
      simp only [ents, List.getElem?_map, Option.map_eq_some_iff] at hk
      obtain ⟨p, hp, hpe⟩ := hk
      obtain ⟨me, m1, m2, m3⟩ := he i p hp
      simp only [Prod.mk.injEq] at hpe
      obtain ⟨rfl, rfl⟩ := hpe
      exact ⟨me, m1, m2, by rw [set_self hg]; exact keep _ _ m3⟩, hu, rfl, ho⟩ (by rw [set_self hg]; exact keep)
  rwa [set_self hg] at this

theorem op_mapEntryG (t : TypeId) (x i : Operand) (s : Nat) (m : List (α × AV)) (k : α) (K : KeyR P kt kv) (M : MapT P t kt e zv za) (hx : E x = .omap s) (hst : st[s]? = some (.mp (ents kv m))) (hi : ∀ σ gh st v, RepA σ gh st v (E i) → v = kv k) :
    OpS P (.mapEntry t x i) E st (.tup [.one .any, .one (.sc (.int .i64 (idxM k m)))]) (st.set s (.mp (ents kv (entM za k m)))) := by
  intro o ho w0 σ0 σ gh ρ w hb hρ
  have hx' := hρ x (by simp [Op.operands])
  have hi' := hi _ _ _ _ (hρ i (by simp [Op.operands]))
  rw [hx] at hx'
  obtain ⟨hg, r0, hr⟩ := hx'
  obtain ⟨r, entries, e1, e2, e3, e4, e5, e6, e7, e8⟩ := map_at hb K hst hg k
  have two : ∀ (σ : Sig) (gh : List Value) (st : List AO) (u : Value) (n : Int), u.oneCell' = true → RepA σ gh st (.tuple #[u, .int .i64 n]) (.tup [.one .any, .one (.sc (.int .i64 n))]) := fun σ gh st u n h =>
    ⟨[u, .int .i64 n], rfl, rfl, fun i v d' hv hd' => by
      match i, hv, hd' with
      | 0, hv, hd' => simp at hv hd'; subst hv hd'; exact Rep.any h
      | 1, hv, hd' => simp at hv hd'; subst hv hd'; exact Rep.sc rfl
      | i + 2, hv, hd' => simp at hv⟩
  rcases e8 with ⟨f1, f2⟩ | ⟨j, me, f1, f2, f3⟩
  · have hrun : (execOp ρ o).run P w = .ok (.value (.tuple #[zv, .int .i64 entries.size])) { w with heap := w.heap.setIfInBounds r (.map (entries.push { key := kv k, val := zv, born := entries.size }) (entries.push { key := kv k, val := zv, born := entries.size }).size) } := by
      simp [execOp, ho, e1, hi', Instr.mapEntry, run_underlying M.ut, Go.MapKept.run_getObj_map e3, K.check, f2, Result.andThen, M.zero, Go.MapKept.run_setObj_map _ e3, goInt]
    rw [hrun]
    have hem : entM za k m = m ++ [(k, za)] := by unfold entM; rw [f1]
    have hid : idxM k m = m.length := by unfold idxM; rw [f1]; rfl
    rw [hem, hid]
    refine ⟨σ, gh, map_turn hb hst hg e1 e2 e3 e6 _ _ (by simp [e4]) (fun i me hm => ?_) (fun i p hp => ?_), by rw [e4]; exact two _ _ _ _ _ M.one⟩
    · rw [Array.getElem?_push] at hm
      split at hm
      · rename_i hi; cases hm; exact ⟨hi.symm, M.one⟩
      · exact e7 i me hm
    · by_cases hlt : i < m.length
      · rw [List.getElem?_append_left hlt] at hp
        obtain ⟨me, m1, m2, m3⟩ := e5 i p hp
        have : i < entries.size := (Array.getElem?_eq_some_iff.1 m1).1
        exact ⟨me, by rw [Array.getElem?_push, if_neg (by omega)]; exact m1, m2, m3⟩
      · have hi0 : i = m.length := by
          have := (List.getElem?_eq_some_iff.1 hp).1
          simp at this; omega
        subst hi0
        simp at hp
        subst hp
        exact ⟨_, by rw [Array.getElem?_push, if_pos e4.symm], rfl, M.rep _ _ _⟩
  · obtain ⟨y0, g1, _, g2⟩ := fndM_some (z := za) (d := za) f1
    obtain ⟨me', g3, g4, g5⟩ := e5 j _ g1
    rw [f2] at g3; cases g3
    have hkey : me.key = kv k := g4
    have hrun : (execOp ρ o).run P w = .ok (.value (.tuple #[me.val, .int .i64 me.born])) { w with heap := w.heap.setIfInBounds r (.map (entries.modify j fun e => { e with key := kv k }) (entries.modify j fun e => { e with key := kv k }).size) } := by
      simp [execOp, ho, e1, hi', Instr.mapEntry, run_underlying M.ut, Go.MapKept.run_getObj_map e3, K.check, f3, f2, hkey, K.stays, Result.andThen, Go.MapKept.run_setObj_map _ e3, goInt]
    rw [hrun]
    have hem : entM za k m = m := by unfold entM; rw [f1]
    have hid : idxM k m = j := by unfold idxM; rw [f1]; rfl
    rw [hem, hid]
    refine ⟨σ, gh, map_turn hb hst hg e1 e2 e3 e6 _ _ (by simp [e4]) (fun i me hm => ?_) (fun i p hp => ?_), by rw [(e7 j me f2).1]; exact two _ _ _ _ _ (e7 j me f2).2⟩
    · rw [Array.getElem?_modify] at hm
      split at hm
      · obtain ⟨me0, h0, rfl⟩ := Option.map_eq_some_iff.1 hm
        exact e7 i me0 h0
      · exact e7 i me hm
    · obtain ⟨me', m1, m2, m3⟩ := e5 i p hp
      by_cases hij : j = i
      · subst hij
        rw [f2] at m1; cases m1
        rw [g1] at hp; cases hp
        exact ⟨{ me with key := kv k }, by rw [Array.getElem?_modify, if_pos rfl, f2]; rfl, rfl, m3⟩
      · exact ⟨me', by rw [Array.getElem?_modify, if_neg hij]; exact m1, m2, m3⟩

theorem op_entryStoreG (t : TypeId) (x i y : Operand) (s : Nat) (m : List (α × AV)) (k : α) (j : Nat) (z : AV) (K : KeyR P kt kv) (hx : E x = .omap s) (hst : st[s]? = some (.mp (ents kv m))) (hi : E i = .int j) (hj : m[j]? = some (k, z)) (hy : okSingle st (E y)) :
    OpS P (.entryStore t x i y) E st .junk (st.set s (.mp (ents kv (m.set j (k, E y))))) := by
  intro o ho w0 σ0 σ gh ρ w hb hρ
  have hx' := hρ x (by simp [Op.operands])
  have hi' := RepA_sc (hi ▸ hρ i (by simp [Op.operands]) : RepA σ gh st (ρ i) (.int j))
  have hy' := hρ y (by simp [Op.operands])
  rw [hx] at hx'
  obtain ⟨hg, r0, hr⟩ := hx'
  obtain ⟨r, entries, e1, e2, e3, e4, e5, e6, e7, e8⟩ := map_at hb K hst hg k
  obtain ⟨me, f1, f2, f3⟩ := e5 j _ hj
  have hjl : j < entries.size := (Array.getElem?_eq_some_iff.1 f1).1
  have hfi : entries.findIdx? (fun e => (e.born : Int) == (j : Int)) = some j := by
    rw [Array.findIdx?_eq_some_iff_getElem]
    have hb1 : ∀ i (h : i < entries.size), entries[i].born = i := fun i h => (e7 i entries[i] (by simp [h])).1
    refine ⟨hjl, by simp [hb1 j hjl], fun i hi => ?_⟩
    have := hb1 i (by omega)
    simp [this]
    omega
  have hrun : (execOp ρ o).run P w = .ok .skip { w with heap := w.heap.setIfInBounds r (.map (entries.modify j fun e => { e with val := ρ y }) (entries.modify j fun e => { e with val := ρ y }).size) } := by
    simp [execOp, ho, e1, hi', Instr.entryStore, Go.MapKept.run_getObj_map e3, asInt, asIntOf, hfi, Result.andThen, Go.MapKept.run_setObj_map _ e3]
  rw [hrun]
  have hone := okSingle_one hb hy' hy
  refine ⟨rfl, σ, gh, map_turn hb hst hg e1 e2 e3 e6 _ _ (by simp [e4]) (fun i me hm => ?_) (fun i p hp => ?_)⟩
  · rw [Array.getElem?_modify] at hm
    split at hm
    · obtain ⟨me0, h0, rfl⟩ := Option.map_eq_some_iff.1 hm
      exact ⟨(e7 i me0 h0).1, hone⟩
    · exact e7 i me hm
  · by_cases hij : j = i
    · subst hij
      have hjm : j < m.length := by omega
      rw [List.getElem?_set_self hjm] at hp
      cases hp
      exact ⟨{ me with val := ρ y }, by rw [Array.getElem?_modify, if_pos rfl, f1]; rfl, f2, hy'⟩
    · rw [List.getElem?_set, if_neg hij] at hp
      obtain ⟨me', m1, m2, m3⟩ := e5 i p hp
      exact ⟨me', by rw [Array.getElem?_modify, if_neg hij]; exact m1, m2, m3⟩
end
end Go.Proofs.Nw.K
end
section
/- K33: structs that hold maps; maps, and boxes, given out; what was given out, looked at. -/
open Go Go.RowKit Go.MapKept
set_option linter.unusedVariables false
set_option linter.unusedSimpArgs false
namespace Go.Proofs.Nw.K

def toPC : AV → Option PC
  | .omap s => some (.o s)
  | .v (.one d) => some (.d d)
  | _ => none
def pcAV : PC → AV
  | .o s => .omap s
  | .d x => .d x
def fillP (place : Nat → Option (Nat × Nat)) (cs : List PC) : List (Nat × AV) → Option (List PC)
  | [] => some cs
  | (i, a) :: r => match place i, toPC a with
    | some (off, 1), some c => if off < cs.length then fillP place (cs.set off c) r else none
    | _, _ => none
theorem toPC_rep {σ : Sig} {gh st} {v : Value} {a : AV} {c : PC} (h : RepA σ gh st v a) (hc : toPC a = some c) : PRep σ gh v c ∧ v.cells = #[v] := by
  unfold toPC at hc
  split at hc
  · cases hc
    refine ⟨h, ?_⟩
    obtain ⟨_, r, rfl⟩ := h
    rfl
  · cases hc
    exact ⟨h, one_cells (Rep.one h)⟩
  · cases hc
theorem fillP_run {σ : Sig} {gh st} (place : Nat → Option (Nat × Nat)) : ∀ (parts : List (Nat × Value)) (avs : List (Nat × AV)) (cells : Array Value) (cs cs' : List PC), parts.length = avs.length →
    (∀ (j : Nat) x y, parts[j]? = some x → avs[j]? = some y → x.1 = y.1 ∧ RepA σ gh st x.2 y.2) → (cells.size = cs.length ∧ ∀ (i : Nat) u c, cells[i]? = some u → cs[i]? = some c → PRep σ gh u c) → fillP place cs avs = some cs' →
    ∃ cells', Instr.fill place cells parts = some cells' ∧ cells'.size = cs'.length ∧ ∀ (i : Nat) u c, cells'[i]? = some u → cs'[i]? = some c → PRep σ gh u c
  | [], [], cells, cs, cs', _, _, h, hf => by cases hf; exact ⟨cells, rfl, h⟩
  | (i, v) :: rest, (j, a) :: avs, cells, cs, cs', hl, hr, h, hf => by
    obtain ⟨e1, e2⟩ := hr 0 _ _ rfl rfl
    have e1 : i = j := e1
    subst e1
    unfold fillP at hf
    split at hf
    · rename_i off c hp hc
      split at hf
      · rename_i hlt
        obtain ⟨p1, p2⟩ := toPC_rep e2 hc
        have p2 : v.cells = #[v] := p2
        have hlt2 : off < cells.size := by rw [h.1]; exact hlt
        obtain ⟨cells', h1, h2⟩ := fillP_run place rest avs (cells.setIfInBounds off v) (cs.set off c) cs' (by simpa using hl) (fun j x y h1 h2 => hr (j + 1) x y (by simpa using h1) (by simpa using h2)) ⟨by simpa using h.1, fun k u d hk hd => by
          rw [Array.getElem?_setIfInBounds] at hk
          rw [List.getElem?_set] at hd
          by_cases e : off = k
          · subst e
            simp [hlt2] at hk
            simp [hlt] at hd
            subst hk hd
            exact p1
          · rw [if_neg e] at hk hd
            exact h.2 k u d hk hd⟩ hf
        refine ⟨cells', ?_, h2⟩
        have hs : ¬ (off + 1 > cells.size) := by omega
        rw [← h1]
        simp [Instr.fill, hp, p2, hs]
      · cases hf
    · cases hf
  | [], _ :: _, _, _, _, hl, _, _, _ => by simp at hl
  | _ :: _, [], _, _, _, hl, _, _, _ => by simp at hl

section
variable {P : Program} {E : Operand → AV} {st : List AO}

theorem op_buildP (t : TypeId) (parts : Array (Nat × Operand)) (zs : List D) (cs : List PC) (ps : List (Nat × Nat)) (hz : zeroD P t = some zs) (hp : buildT P t = some ps)
    (hf : fillP (ps[·]?) (zs.map PC.d) (parts.toList.map fun p => (p.1, E p.2)) = some cs) : OpS P (.build t parts) E st (.pkg cs) st :=
  op_pure fun o ho w0 σ0 σ gh ρ w hb hρ => by
    obtain ⟨i, z, hi, hz', hrz⟩ := zeroD_spec hz
    unfold buildT at hp
    split at hp <;> try cases hp
    rename_i fs hu
    have hpr := parts_rep (E := E) (st := st) (σ := σ) (gh := gh) ρ parts.toList (fun x hx => hρ x (by simpa [Op.operands] using hx))
    obtain ⟨cs', h1, h2, h3⟩ := fillP_run (σ := σ) (gh := gh) (st := st) (ps[·]?) _ _ z.cells (zs.map PC.d) cs (by simp) hpr ⟨by have := (hrz σ).1; simpa using this, fun i u c hu hc => by
      simp only [List.getElem?_map, Option.map_eq_some_iff] at hc
      obtain ⟨d, hd, rfl⟩ := hc
      exact (hrz σ).2 i u d (by simpa using hu) hd⟩ hf
    refine ⟨.agg cs', ?_, cs'.toList, by simp, by simpa using h2, fun i u c hu hc => h3 i u c (by simpa using hu) hc⟩
    have hm := fieldPlaces_run hp w
    have hm' : (fs.mapM (fun f => do pure (f.offset, ← sizeOf f.type) : Field → Sem (Nat × Nat))).run P w = .ok ps.toArray w := by
      rw [Array.mapM_eq_mapM_toList, Sem.run_map, hm]; rfl
    have hpp : (parts.map fun p => (p.1, ρ p.2)).toList = parts.toList.map fun p => (p.1, ρ p.2) := by simp
    simp only [execOp, ho, Instr.build, zeroValue, typeInfo, Sem.run_bind, run_program, Result.andThen_ok, hi, Sem.run_pure, hz', run_underlying hu, hm']
    have h1' : Instr.fill (fun x => ps.toArray[x]?) z.cells (parts.map fun p => (p.1, ρ p.2)).toList = some cs' := by rw [hpp]; simpa using h1
    simp [h1]

theorem op_boxP (t : TypeId) (x : Operand) (cs : List PC) (hx : E x = .pkg cs) : OpS P (.box t x) E st (.ptr st.length 0) (st ++ [.box t (cs.map pcAV)]) := by
  intro o ho w0 σ0 σ gh ρ w hb hρ
  have h1 := hρ x (by simp [Op.operands])
  rw [hx] at h1
  obtain ⟨vs, e0, hl, hr⟩ := h1
  have : (execOp ρ o).run P w = .ok (.value (.pointer (some ⟨w.heap.size, 0, none⟩))) (w.alloc (.cells vs.toArray t)) := by
    simp [execOp, ho, e0, Instr.box, newVar, newRow, Value.cells]
  rw [this]
  refine ⟨σ, _, new_box hb vs.toArray t _ (by simpa using hl) (fun j v c hv hc => ?_) (fun v hv => ?_), ptr_last hb _⟩
  · simp only [List.getElem?_map, Option.map_eq_some_iff] at hc
    obtain ⟨d, hd, rfl⟩ := hc
    have := hr j v d (by simpa using hv) hd
    cases d with
    | o s => exact this
    | d x => exact this
  · obtain ⟨i, hi, rfl⟩ := List.getElem_of_mem (by simpa using hv : v ∈ vs)
    have hi' : i < cs.length := by omega
    have := hr i vs[i] cs[i] (by simp [hi]) (by simp [hi'])
    generalize cs[i] = c at this
    cases c with
    | o s => obtain ⟨_, r, e⟩ := this; rw [e]; rfl
    | d x => exact Rep.one this

theorem op_refeq_nil (t ty : TypeId) (x y : Operand) (cells : List D) (ht : ptrT P t = true) (hx : E x = .d (.ref cells)) (hy : E y = .sc (.pointer none)) : OpS P (.binOp .eql t x y ty) E st (.bool false) st :=
  op_pure fun o ho w0 σ0 σ gh ρ w hb hρ => by
    have h1 := hρ x (by simp [Op.operands])
    have h2 := hρ y (by simp [Op.operands])
    rw [hx] at h1
    rw [hy] at h2
    have h1 : Rep σ (ρ x) (.ref cells) := h1
    generalize hv : ρ x = v at h1
    cases h1 with
    | @ref b off _ val hcell hval =>
      obtain ⟨e, j, h4, h5⟩ := ptrT_spec ht
      have hpt : P.pointee t = e := by simp [Program.pointee, h4]
      have := run_eql_pointer_nil (P := P) w t (some ⟨b, off, none⟩) (by rw [hpt]; exact h4)
      exact ⟨.bool false, by simp [execOp, ho, hv, RepA_sc h2, eqGuard_ptr, this], RepA_of_sc rfl⟩

/-- a map that was given out, looked at -/
theorem op_lookupD {α : Type} [DecidableEq α] {kv : α → Value} {kt e : TypeId} {zv : Value} {za : AV} (t : TypeId) (x i : Operand) (m : List (α × D)) (k : α) (K : KeyR P kt kv) (M : MapT P t kt e zv za) (zd : D) (hz : za = .d zd)
    (hx : E x = .d (.map (m.map fun p => (kv p.1, p.2)))) (hi : ∀ σ gh st v, RepA σ gh st v (E i) → v = kv k) (comma : Bool) :
    OpS P (.lookup t x i comma) E st (if comma then .tup [.one (lookM zd k m), .one (.sc (.bool (fndM k m).isSome))] else .d (lookM zd k m)) st := by
  refine op_pure fun o ho w0 σ0 σ gh ρ w hb hρ => ?_
  have hx' := hρ x (by simp [Op.operands])
  have hi' := hi _ _ _ _ (hρ i (by simp [Op.operands]))
  rw [hx] at hx'
  have hx' : Rep σ (ρ x) (.map (m.map fun p => (kv p.1, p.2))) := hx'
  generalize hv : ρ x = v at hx'
  cases hx' with
  | @map r _ entries clock val hobj hl hkey hval =>
    have e3 := hb.sl.obj r _ hobj
    have hl' : entries.size = m.length := by simpa using hl
    have h5 : ∀ (i : Nat) p, m[i]? = some p → ∃ me : MapEntry, entries[i]? = some me ∧ me.key = kv p.1 ∧ Rep σ me.val p.2 := fun i p hp => by
      obtain ⟨me, h1, h2, h3⟩ := hkey i (kv p.1, p.2) (by simp [hp])
      exact ⟨me, h1, h2, by rw [h3]; exact hval i (kv p.1) p.2 (by simp [hp])⟩
    have two : ∀ (u : Value) (b : Bool) (d : D), Rep σ u d → RepA σ gh st (.tuple #[u, .bool b]) (.tup [.one d, .one (.sc (.bool b))]) := fun u b d h =>
      ⟨[u, .bool b], rfl, rfl, fun i v d' hv hd' => by
        match i, hv, hd' with
        | 0, hv, hd' => simp at hv hd'; subst hv hd'; exact h
        | 1, hv, hd' => simp at hv hd'; subst hv hd'; exact Rep.sc rfl
        | i + 2, hv, hd' => simp at hv⟩
    have f0 : ∀ (m : List (α × D)), fndM k (m.map fun p => (p.1, AV.d p.2)) = fndM k m := fun m => by
      induction m with
      | nil => rfl
      | cons p r ih => simp only [List.map_cons, fndM, ih]
    rcases K.find w k (m.map fun p => (p.1, AV.d p.2)) entries.toList 0 (by simpa using hl') (fun i me p h1 h2 => by
      simp only [List.getElem?_map, Option.map_eq_some_iff] at h2
      obtain ⟨q, hq, rfl⟩ := h2
      obtain ⟨me', h3, h4, _⟩ := h5 i q hq
      rw [Array.getElem?_toList] at h1
      rw [h1] at h3; cases h3; exact h4) rfl with ⟨f1, f2⟩ | ⟨j, me, f1, f2, f3⟩
    · rw [f0] at f1
      have hr := M.rep σ gh st
      rw [hz] at hr
      cases comma with
      | false =>
        refine ⟨zv, ?_, ?_⟩
        · simp [execOp, ho, hv, hi', Instr.lookup, run_underlying M.ut, Go.MapKept.run_getObj_map e3, K.check, f2, Result.andThen, M.zero]
        · rw [(fndM_none (z := zd) (d := zd) f1).1]; exact hr
      | true =>
        refine ⟨.tuple #[zv, .bool false], ?_, ?_⟩
        · simp [execOp, ho, hv, hi', Instr.lookup, run_underlying M.ut, Go.MapKept.run_getObj_map e3, K.check, f2, Result.andThen, M.zero]
        · rw [(fndM_none (z := zd) (d := zd) f1).1, f1]; exact two _ _ _ hr
    · rw [f0] at f1
      obtain ⟨y, g1, g2, _⟩ := fndM_some (z := zd) (d := zd) f1
      obtain ⟨me', g3, _, g4⟩ := h5 j _ g1
      rw [Array.getElem?_toList] at f2
      rw [f2] at g3; cases g3
      cases comma with
      | false =>
        refine ⟨me.val, ?_, ?_⟩
        · simp [execOp, ho, hv, hi', Instr.lookup, run_underlying M.ut, Go.MapKept.run_getObj_map e3, K.check, f3, Result.andThen]
        · rw [g2]; exact g4
      | true =>
        refine ⟨.tuple #[me.val, .bool true], ?_, ?_⟩
        · simp [execOp, ho, hv, hi', Instr.lookup, run_underlying M.ut, Go.MapKept.run_getObj_map e3, K.check, f3, Result.andThen]
        · rw [g2, f1]; exact two _ _ _ g4

/-! ### given out -/
theorem seal_map {w0 : World} {σ0 σ gh st w} (hb : Base w0 σ0 σ gh st w) {s : Nat} {es : List (Value × D)} (hst : st[s]? = some (.mp (es.map fun p => (p.1, AV.d p.2)))) {g : Value} (hg : gh[s]? = some g) :
    ∃ σ', Fut w0 σ0 σ gh st σ' gh (st.set s .gone) w ∧ Rep σ' g (.map es) := by
  obtain ⟨r, entries, clock, e1, e2, e3, e4, e5, e6, e7⟩ := hb.obj s _ _ hst hg
  have keep0 : ∀ v a, RepA σ gh st v a → RepA σ gh (st.set s .gone) v a := fun v a h => h.set hst _ (fun _ _ _ _ h => by cases h)
  have hslt : s < st.length := (List.getElem?_eq_some_iff.1 hst).1
  let σ' : Sig := ⟨σ.cell, fun b => if b = r then some (.map entries clock) else σ.obj b⟩
  have hle : σ.le σ' := ⟨fun _ _ _ h => h, fun b o h => by
    show (if b = r then _ else σ.obj b) = _
    split
    · rename_i e; subst e; rw [e6.2] at h; cases h
    · exact h⟩
  have keep : ∀ v a, RepA σ gh st v a → RepA σ' gh (st.set s .gone) v a := fun v a h => (keep0 v a h).sig hle
  refine ⟨σ', ⟨⟨hb.below, fun b h => ?_, ⟨fun b o v hv => hb.sl.cell b o v hv, fun b o hv => ?_⟩, by simp [hb.len], hb.sep, hb.lt, fun t o1 g1 h1 h2 => ?_⟩, keep⟩, ?_⟩
  · have : b ≠ r := by omega
    have := hb.ext b h
    exact ⟨this.1, by show (if b = r then _ else σ.obj b) = _; rw [if_neg ‹_›]; exact this.2⟩
  · have hv : (if b = r then some (Obj.map entries clock) else σ.obj b) = some o := hv
    by_cases e : b = r
    · rw [if_pos e] at hv
      cases hv
      rw [e]; exact e3
    · rw [if_neg e] at hv
      exact hb.sl.obj b o hv
  · rw [List.getElem?_set] at h1
    split at h1
    · simp [hslt] at h1; subst h1; trivial
    · rename_i hne
      refine (hb.obj t o1 g1 h1 h2).sig hle (fun b' hbk hu' => ⟨hu'.1, ?_⟩) keep
      show (if b' = r then _ else σ.obj b') = none
      rw [if_neg]
      · exact hu'.2
      · intro e'; subst e'
        exact hb.sep s t b' hne (by rw [hg, e1]; simp [blkOf]) (by rw [h2]; exact hbk)
  · rw [e1]
    refine .map (fun i => (entries.getD i ⟨.tuple #[], .tuple #[], 0⟩).val) (show (if r = r then some (Obj.map entries clock) else σ.obj r) = _ by rw [if_pos rfl]) (by simpa using e4) (fun i e he => ?_) (fun i k d he => ?_)
    · obtain ⟨me, h1, h2, h3⟩ := e5 i e.1 (.d e.2) (by simp [he])
      exact ⟨me, h1, h2, by simp [Array.getD_eq_getD_getElem?, h1]⟩
    · obtain ⟨me, h1, h2, h3⟩ := e5 i k (.d d) (by simp [he])
      simp only [Array.getD_eq_getD_getElem?, h1, Option.getD_some]
      exact Rep.mono (h3 : Rep σ me.val d) hle

theorem seal_box {w0 : World} {σ0 σ gh st w} (hb : Base w0 σ0 σ gh st w) {s : Nat} {bT : TypeId} {ds : List D} (hst : st[s]? = some (.box bT (ds.map AV.d))) {g : Value} (hg : gh[s]? = some g) :
    ∃ σ', Fut w0 σ0 σ gh st σ' gh (st.set s .gone) w ∧ Rep σ' g (.ref ds) := by
  obtain ⟨b, vals, e1, e2, e3, e4, e5, hu, e7⟩ := hb.obj s _ _ hst hg
  have keep0 : ∀ v a, RepA σ gh st v a → RepA σ gh (st.set s .gone) v a := fun v a h => h.set hst _ (fun _ _ _ _ h => by cases h)
  have hslt : s < st.length := (List.getElem?_eq_some_iff.1 hst).1
  have hle := Sig.le_seal hu vals.toList
  have keep : ∀ v a, RepA σ gh st v a → RepA (σ.shut b vals.toList) gh (st.set s .gone) v a := fun v a h => (keep0 v a h).sig hle
  refine ⟨σ.shut b vals.toList, ⟨⟨hb.below, fun b' h => ?_, ⟨fun b' o v hv => ?_, hb.sl.obj⟩, by simp [hb.len], hb.sep, hb.lt, fun t o1 g1 h1 h2 => ?_⟩, keep⟩, ?_⟩
  · have : b' ≠ b := by omega
    have := hb.ext b' h
    exact ⟨by funext o; simp only [Sig.shut]; rw [if_neg ‹_›]; exact congrFun this.1 o, this.2⟩
  · simp only [Sig.shut] at hv
    split at hv
    · rename_i e'; subst e'
      refine ⟨?_, e7 v (by rw [← Array.mem_toList_iff]; exact List.mem_of_getElem? hv)⟩
      rw [cell_of_row w b' o vals _ (0, 0) e3]; simpa using hv
    · exact hb.sl.cell b' o v hv
  · rw [List.getElem?_set] at h1
    split at h1
    · simp [hslt] at h1; subst h1; trivial
    · rename_i hne
      refine (hb.obj t o1 g1 h1 h2).sig hle (fun b' hbk hu' => hu'.shut ?_ _) keep
      intro e'; subst e'
      exact hb.sep s t b' hne (by rw [hg, e1]; simp [blkOf]) (by rw [h2]; exact hbk)
  · rw [e1]
    have hsz : vals.size = ds.length := by simpa using e4
    refine .ref (fun j => vals.getD j undef) (fun j hj => ?_) (fun j d hd => ?_)
    · have : j < vals.size := by omega
      simp [Sig.shut, this, Array.getD]
    · have hj : j < vals.size := by rw [hsz]; exact (List.getElem?_eq_some_iff.1 hd).1
      have := e5 j vals[j] (.d d) (by simp [hj]) (by simp [hd])
      have h2 : vals.getD j undef = vals[j] := by simp [Array.getD, hj]
      rw [h2]
      exact Rep.mono (this : Rep σ _ d) hle
end
end Go.Proofs.Nw.K
end
section
/- QH1: a copy with room behind it, and whether it stays (strings). -/
open Go Go.RowKit Go.Proofs
set_option linter.unusedVariables false
set_option linter.unusedSimpArgs false
namespace Go.Proofs.Nw.K

def dOk (N : Fm) : Option Tmp → Bool
  | some d => Nat.blt d N.n
  | none => true
theorem dOk_out {N : Fm} {dst : Option Tmp} (h : dOk N dst = true) : ∀ d, dst = some d → d < N.n := fun d e => by subst e; exact Nat.le_of_ble_eq_true h
theorem stepW {P : Program} {T : Tab} {N : Fm} {env : Env} {st : List AO} (hT : TabOk P T) {ops : Array Oper} {rest : List Oper} {K : Env → List AO → Prop} {dst : Option Tmp} {op : Op} {ty : TypeId} {pos : String} {after : Array Edge} (hd : dOk N dst = true)
    (h : cOp2 P T op (evalE env) st fun v st' => WPL P N ops rest (updO env dst v) st' K) : WPL P N ops (⟨dst, op, ty, pos, after, none⟩ :: rest) env st K :=
  WPL_opN (dOk_out hd) (cOp2_sound P T hT h)
theorem stepO {P : Program} {N : Fm} {env : Env} {st : List AO} {ops : Array Oper} {rest : List Oper} {K : Env → List AO → Prop} {dst : Option Tmp} {op : Op} {ty : TypeId} {pos : String} {after : Array Edge} {v : AV} {st' : List AO} (hd : dOk N dst = true) (h1 : OpS P op (evalE env) st v st')
    (h : WPL P N ops rest (updO env dst v) st' K) : WPL P N ops (⟨dst, op, ty, pos, after, none⟩ :: rest) env st K := WPL_op h1 (dOk_out hd) h
/-- a guarded operation that is carried out, of which one of several things comes -/
theorem stepGN {P : Program} {N : Fm} {env : Env} {st : List AO} {ops : Array Oper} {rest : List Oper} {K : Env → List AO → Prop} {dst : Option Tmp} {op : Op} {ty : TypeId} {pos : String} {after : Array Edge} {j d : Nat} {want : Bool} {oj : Oper} (hd : dOk N dst = true) (hj : ops[j]? = some oj) (hdj : oj.dst = some d) (hdN : d < N.n) (hb : env d = .bool want)
    (h : OpN P op (evalE env) st fun v st' => WPL P N ops rest (updO env dst v) st' K) : WPL P N ops (⟨dst, op, ty, pos, after, some (j, want)⟩ :: rest) env st K :=
  fun w0 σ0 I a w hr => by
    have hy := yielded_of hr hj hdj hdN hb
    refine wpList_step fun K' hK => ?_
    simp only [Region.wanted, hy, beq_self_eq_true, if_true]
    exact op_wpN (o := ⟨dst, op, ty, pos, after, some (j, want)⟩) h (dOk_out hd) hr fun v st' a w hV h' => hK a w (hV w0 σ0 I a w h')
theorem stepG {P : Program} {T : Tab} {N : Fm} {env : Env} {st : List AO} (hT : TabOk P T) {ops : Array Oper} {rest : List Oper} {K : Env → List AO → Prop} {dst : Option Tmp} {op : Op} {ty : TypeId} {pos : String} {after : Array Edge} {j d : Nat} {want : Bool} {oj : Oper} (hd : dOk N dst = true) (hj : ops[j]? = some oj) (hdj : oj.dst = some d) (hdN : d < N.n) (hb : env d = .bool want)
    (h : cOp2 P T op (evalE env) st fun v st' => WPL P N ops rest (updO env dst v) st' K) : WPL P N ops (⟨dst, op, ty, pos, after, some (j, want)⟩ :: rest) env st K :=
  stepGN hd hj hdj hdN hb (cOp2_sound P T hT h)

/-- the copy, with j of the room's three places filled -/
def ownE {α : Type} (z : α) (l : List α) (f : α) : Nat → List α
  | 0 => l ++ [z, z, z]
  | 1 => l ++ [f, z, z]
  | 2 => l ++ [f, f, z]
  | _ => l ++ [f, f, f]
theorem ownE_length {α : Type} (z : α) (l : List α) (f : α) (j : Nat) : (ownE z l f j).length = l.length + 3 := by
  match j with
  | 0 | 1 | 2 | _ + 3 => simp [ownE]
theorem ownE_set {α : Type} (z : α) (l : List α) (f : α) (j : Nat) (h : j < 3) : (ownE z l f j).set (l.length + j) f = ownE z l f (j + 1) := by
  match j, h with
  | 0, _ | 1, _ | 2, _ => simp [ownE, List.set_append_right]
theorem own_first {α : Type} (z : α) (enc : α → List D) (zs : List D) (hz : zs = enc z) (l : List α) (f : α) : (List.replicate (l.length + 3) zs).take 0 ++ l.map enc ++ (List.replicate (l.length + 3) zs).drop (0 + (l.map enc).length) = (ownE z l f 0).map enc := by
  subst hz
  rw [List.take_zero, List.nil_append, Nat.zero_add, List.length_map, List.drop_replicate, Nat.add_sub_cancel_left]
  simp [ownE, List.replicate]

theorem Own_impl (l : List Str) (f : Str) (hl : l.length ≤ 4194304) : Impl Tryd.prog 18 [.one (.tl Str 1 encStr emp l), .one (dstr f)] [.one (.sp 1 ((ownE emp l f 3).map encStr) l.length)] := by
  have hM : (4194307 : Nat) ≤ maxLen := by decide
  refine impl_wp tabOk Tryd.func18 rfl rfl (by kernel_rfl) ?_
  refine WP_seq ?_
  refine vcc_sound _ _ _ tabOk (by exact rfl) ?_
  refine WP_seq ?_
  refine WP_region ?_
  refine stepW tabOk rfl ?_
  refine stepW tabOk rfl ?_
  refine stepW tabOk rfl ?_
  refine Ob.mk (by omega) ?_
  refine stepO rfl (op_makeSlice0 23 9 1 16 _ _ (l.length + 3) [dstr emp] (tabOk.ap 23 _ rfl) (tabOk.zd 9 _ rfl) rfl rfl (by omega) (by omega) (by omega)) ?_
  refine stepW tabOk rfl ?_
  refine WPL_nil ?_
  refine WP_seq ?_
  refine WP_region ?_
  refine stepW tabOk rfl ?_
  refine stepW tabOk rfl ?_
  refine stepO rfl (op_append_in 23 9 1 16 _ _ 0 0 0 (List.replicate (l.length + 3) [dstr emp]) (l.map encStr) (tabOk.ap 23 _ rfl) rfl rfl (SrcT.tl rfl) (by rw [List.length_replicate]; omega) (by rw [List.length_replicate, List.length_map]; omega)) ?_
  refine stepW tabOk rfl ?_
  refine WPL_nil ?_
  refine WP_sub (Sub.ofL [(0, .d (.tl Str 1 encStr emp l)), (1, .str f), (5, .h 0 1 0 l.length)] [.row 1 9 1 ((ownE emp l f 0).map encStr)] (Nat.zero_le _) ⟨rfl, rfl, rfl, rfl, congrArg (AV.h 0 1 0) (by rw [Nat.zero_add, List.length_map]), rfl, trivial⟩ (by rw [← own_first emp encStr [dstr emp] rfl l f]; rfl) rfl) ?_
  refine WP_seq ?_
  refine WP_region ?_
  refine stepW tabOk rfl ?_
  refine stepW tabOk rfl ?_
  refine stepW tabOk rfl ?_
  refine stepW tabOk rfl ?_
  refine Ob.mk (by omega) ?_
  refine stepO rfl (op_slice_hm 23 9 1 _ _ (l.length + 3) 0 1 l.length 9 ((ownE emp l f 0).map encStr) (tabOk.el 23 _ rfl) rfl rfl rfl (by rw [List.length_map, ownE_length]; omega) (by rw [List.length_map, ownE_length]; omega)) ?_
  refine stepW tabOk rfl ?_
  refine WPL_nil ?_
  refine WP_seq ?_
  refine WP_seq ?_
  refine vcc_sound _ _ _ tabOk (by exact rfl) ?_
  refine WP_cutQ (α := Unit) (fun _ => ofL [(5, .h 0 1 0 l.length)]) (fun _ => [.row 1 9 1 ((ownE emp l f 3).map encStr)]) (WP_block (WP_loop (α := {j : Nat // j ≤ 3}) (fun j => ofL [(0, .d (.tl Str 1 encStr emp l)), (1, .str f), (5, .h 0 1 0 l.length), (6, .h 0 1 0 (l.length + 3)), (7, .int ((l.length + j.1 : Nat) : Int))]) (fun j => [.row 1 9 1 ((ownE emp l f j.1).map encStr)]) (fun j => 3 - j.1) ⟨0, Nat.zero_le _⟩ (Sub.ofL _ _ (Nat.zero_le _) ⟨rfl, rfl, rfl, rfl, rfl, rfl, rfl, rfl, rfl, rfl, trivial⟩ rfl rfl) ?_)) ?_
  rotate_left
  · rintro ⟨⟩ env st hs
    refine WP_sub hs ?_
    refine WP_seq ?_
    refine vcc_sound _ _ _ tabOk (by exact rfl) ?_
    refine WP_sub (Sub.shutSp 4 0 1 l.length 9 1 ((ownE emp l f 3).map encStr) rfl rfl (by rw [List.length_map, ownE_length]; omega) (by rw [List.length_map, ownE_length]; omega)) ?_
    refine WP_ret ?_
    exact ⟨DLe.refl _, trivial⟩
  rintro ⟨j, hj⟩
  dsimp only
  refine WP_seq ?_
  refine WP_seq ?_
  refine vcc_sound _ _ _ tabOk (by exact rfl) ?_
  repeat (first | refine Ob.mk (by first | rfl | omega) ?_)
  refine vcc_sound _ _ _ tabOk (by exact rfl) ?_
  refine Br.mk (fun hb => ?_) (fun hb => ?_)
  · have hb : decide (((l.length + j : Nat) : Int) < ((l.length + 3 : Nat) : Int)) = true := hb
    have hj3 : j < 3 := by have := of_decide_eq_true hb; omega
    have hlen : ((ownE emp l f j).map encStr).length = l.length + 3 := by rw [List.length_map, ownE_length]
    refine vcc_sound _ _ _ tabOk (by exact rfl) ?_
    refine WP_seq ?_
    refine WP_block ?_
    refine vcc_sound _ _ _ tabOk (by exact rfl) ?_
    refine Ob.mk ⟨rfl, by omega, by omega⟩ ?_
    refine Ob.mk rfl ?_
    refine RowSet.ty encStr (ownE emp l f j) emp f rfl (by rw [ownE_length]; omega) rfl ?_
    refine vcc_sound _ _ _ tabOk (by exact rfl) ?_
    refine Ob.mk (by omega) ?_
    refine ⟨⟨j + 1, hj3⟩, by show 3 - (j + 1) < 3 - j; omega, Sub.ofL _ _ (Nat.zero_le _) ⟨rfl, rfl, rfl, rfl, rfl, rfl, rfl, rfl, congrArg AV.int (show ((l.length + j : Nat) : Int) + 1 = ((l.length + (j + 1) : Nat) : Int) by omega), rfl, trivial⟩ ?_ rfl⟩
    show [AO.row 1 9 1 (((ownE emp l f j).set (((l.length + j : Nat) : Int)).toNat f).map encStr)] = _
    rw [Int.toNat_natCast, ownE_set emp l f j hj3]
  · have hb : decide (((l.length + j : Nat) : Int) < ((l.length + 3 : Nat) : Int)) = false := hb
    have hj3 : j = 3 := by have := of_decide_eq_false hb; omega
    subst hj3
    refine vcc_sound _ _ _ tabOk (by exact rfl) ?_
    exact ⟨(), Sub.ofL _ _ (Nat.zero_le _) ⟨rfl, rfl, trivial⟩ rfl rfl⟩
end Go.Proofs.Nw.K
end
section
/- K34: boxes and maps of one's own, given out; open regions step by step. -/
open Go Go.RowKit Go.MapKept
set_option linter.unusedVariables false
set_option linter.unusedSimpArgs false
namespace Go.Proofs.Nw.K

/-- a box of one's own that holds data is given out -/
theorem Sub.shutPtr {N : Fm} {env : Env} {st : List AO} (t s : Nat) {bT : TypeId} {ds : List D} (h : env t = .ptr s 0) (hst : st[s]? = some (.box bT (ds.map AV.d))) : Sub N env st (upd env t (.d (.ref ds))) (st.set s .gone) :=
  Sub.slot t _ fun w0 σ0 σ gh w u hb hu => by
    rw [h] at hu
    obtain ⟨b, hg, hv⟩ := hu
    obtain ⟨σ', hf, hrep⟩ := seal_box hb hst hg
    refine ⟨σ', gh, hf, ?_⟩
    rw [hv]
    exact hrep

/-- an entry of one's own map, seen otherwise -/
theorem Sub.ent {N : Fm} {env : Env} {st st1 : List AO} {s i : Nat} {es : List (Value × AV)} {kv : Value} {a a' : AV} (hst : st[s]? = some (.mp es)) (hi : es[i]? = some (kv, a)) (hst1 : st1[s]? = some (.mp es))
    (h : ∀ w0 σ0 σ gh w u, Base w0 σ0 σ gh st w → RepA σ gh st u a → ∃ σ' gh', Fut w0 σ0 σ gh st σ' gh' st1 w ∧ RepA σ' gh' st1 u a' ∧ gh'[s]? = gh[s]?) :
    Sub N env st env (st1.set s (AO.mp (es.set i (kv, a')))) := by
  intro w0 σ0 I x w ⟨hs, hd, hI, σ, gh, hb, hk, he⟩
  have hlt : s < gh.length := by rw [hb.len]; exact (List.getElem?_eq_some_iff.1 hst).1
  obtain ⟨g, hg⟩ : ∃ g, gh[s]? = some g := ⟨gh[s], List.getElem?_eq_getElem hlt⟩
  obtain ⟨r, entries, clock, e1, e2, e3, e4, e5, e6, e7⟩ := hb.obj s _ _ hst hg
  obtain ⟨me, m1, m2, m3⟩ := e5 i kv a hi
  obtain ⟨σ', gh', hf, hu, hgg⟩ := h w0 σ0 σ gh w _ hb m3
  have hg' : gh'[s]? = some g := by rw [hgg, hg]
  obtain ⟨r', entries', clock', f1, f2, f3, f4, f5, f6, f7⟩ := hf.base.obj s _ _ hst1 hg'
  have hrr : r' = r := by rw [e1] at f1; simpa using f1.symm
  subst hrr
  have hee : entries' = entries ∧ clock' = clock := by
    rw [e3] at f3
    have := Option.some.inj f3
    injection this with h1 h2
    exact ⟨h1.symm, h2.symm⟩
  obtain ⟨rfl, rfl⟩ := hee
  have keep : ∀ v a, RepA σ' gh' st1 v a → RepA σ' gh' (st1.set s (AO.mp (es.set i (kv, a')))) v a := fun v a h' => h'.set hst1 _ (fun k' e' sz' xs' heq => by cases heq)
  have := hf.base.turn (w' := w) hst1 hg' (by simp) ⟨rfl, rfl, rfl, Nat.le_refl _, fun _ _ _ => rfl⟩ g (.mp (es.set i (kv, a'))) (fun b hb' => .inl hb')
    ⟨r', entries', clock', f1, f2, f3, by simpa using f4, fun j k d hj => by
      rw [set_self hg']
      by_cases hij : i = j
      · subst hij
        have hil : i < es.length := (List.getElem?_eq_some_iff.1 hi).1
        rw [List.getElem?_set_self hil] at hj
        cases hj
        exact ⟨me, m1, m2, keep _ _ hu⟩
      · rw [List.getElem?_set, if_neg hij] at hj
        obtain ⟨me', c1, c2, c3⟩ := f5 j k d hj
        exact ⟨me', c1, c2, keep _ _ c3⟩, f6, f7⟩ (by rw [set_self hg']; exact keep)
  rw [set_self hg'] at this
  exact ⟨hs, hd, hI, σ', gh', this.base, fun v a ha => this.keep _ _ (hf.keep _ _ (hk v a ha)), fun t => this.keep _ _ (hf.keep _ _ (he t))⟩

/-- a row of one's own, in an entry, is given out -/
theorem Sub.shutEnt {N : Fm} {env : Env} {st : List AO} {s i r k n e sz : Nat} {es : List (Value × AV)} {kv : Value} {xs : List (List D)} {d : D} (hst : st[s]? = some (.mp es)) (hi : es[i]? = some (kv, .h r k 0 n)) (hr : st[r]? = some (.row k e sz xs)) (hn : n = xs.length)
    (hd : DLe (.one (.list sz xs)) (.one d)) : Sub N env st env ((st.set r .gone).set s (AO.mp (es.set i (kv, .d d)))) := by
  have hne : r ≠ s := fun h => by subst h; rw [hst] at hr; cases hr
  refine Sub.ent hst hi (by rw [List.getElem?_set, if_neg hne]; exact hst) fun w0 σ0 σ gh w u hb hu => ?_
  obtain ⟨g, hg, hR, A, c, hv⟩ := h_val hb hr hu
  obtain ⟨σ', hf, hrep⟩ := seal_row hb hr hg
  refine ⟨σ', gh, hf, ?_, rfl⟩
  refine hd σ' u ?_
  obtain ⟨h0, ⟨a1, a2, a3⟩ | ⟨b, m, c2, a1, a2, ⟨a3, a4, _⟩ | a3⟩⟩ := hR
  · rw [a3]; exact hrep
  · omega
  · subst hn
    obtain ⟨A', c', hgv, hc'⟩ := row_val hb hr hg
    rw [a1] at hgv
    injection hgv with e1 e2 e3
    subst e2
    have : u = g := by rw [a3, a1]; simp
    rw [this]; exact hrep

/-- a map of one's own, in a cell, is given out -/
theorem Sub.shutMap {N : Fm} {env : Env} {st : List AO} {s i r : Nat} {bT : TypeId} {cells : List AV} {es : List (Value × D)} (hst : st[s]? = some (.box bT cells)) (hi : cells[i]? = some (.omap r)) (hr : st[r]? = some (.mp (es.map fun p => (p.1, AV.d p.2)))) :
    Sub N env st env ((st.set r .gone).set s (AO.box bT (cells.set i (.d (.map es))))) := by
  have hne : r ≠ s := fun h => by subst h; rw [hst] at hr; cases hr
  refine Sub.cell hst hi (by rw [List.getElem?_set, if_neg hne]; exact hst) fun w0 σ0 σ gh w u hb hu => ?_
  obtain ⟨hg, _⟩ := hu
  obtain ⟨σ', hf, hrep⟩ := seal_map hb hr hg
  exact ⟨σ', gh, hf, hrep, rfl⟩

section
variable {P : Program} {T : Tab} {N : Fm} {ops : Array Oper} {tf : List Bool} {Ss : List (List AO)} {K : Env → Nat → Prop} {k j : Nat} {env : Env} {rest : List Oper} {dst : Option Tmp} {op : Op} {ty : TypeId} {pos : String} {after : Array Edge}
/-- what turns nothing -/
theorem WT_pure {v : AV} (hf : tf.getD k false = false) (hd : dOk N dst = true) (h : ∀ s ∈ Ss, OpS P op (evalE env) s v s) (hk : WT P N ops tf Ss K (k + 1) rest (updO env dst v) j) : WT P N ops tf Ss K k (⟨dst, op, ty, pos, after, none⟩ :: rest) env j := by
  refine ⟨v, j, ?_, hk⟩
  unfold Yt
  rw [hf]
  exact ⟨rfl, fun s hs => ⟨dOk_out hd, .inl ⟨rfl, h s hs⟩⟩⟩
theorem WT_puk (hT : TabOk P T) (hf : tf.getD k false = false) (hd : dOk N dst = true) (h : PuK P T op (evalE env) fun v => WT P N ops tf Ss K (k + 1) rest (updO env dst v) j) : WT P N ops tf Ss K k (⟨dst, op, ty, pos, after, none⟩ :: rest) env j := by
  obtain ⟨v, h1, h2⟩ := PuK.out hT h
  exact WT_pure hf hd (fun s _ => h1 s) h2
theorem WT_turn {v : AV} {s s' : List AO} (ht : tf.getD k false = true) (hs : Ss[j]? = some s) (hs' : Ss[j + 1]? = some s') (hd : dOk N dst = true) (h : OpS P op (evalE env) s v s') (hk : WT P N ops tf Ss K (k + 1) rest (updO env dst v) (j + 1)) : WT P N ops tf Ss K k (⟨dst, op, ty, pos, after, none⟩ :: rest) env j := by
  refine ⟨v, j + 1, ?_, hk⟩
  unfold Yt
  rw [ht]
  exact ⟨rfl, s, s', hs, hs', dOk_out hd, rfl, h⟩
end
end Go.Proofs.Nw.K
end
section
/- QI1: what an index holds: the plain part. -/
open Go Go.RowKit Go.Proofs
set_option linter.unusedVariables false
set_option linter.unusedSimpArgs false
namespace Go.Proofs.Nw.K

abbrev Pj := Str × Str
def ksC (c : Coord) : List Str := [c.group, c.name, c.version]
def ksP (p : Pj) : List Str := [p.1, p.2]
deriving instance DecidableEq for Coord
def kvC (c : Coord) : Value := .agg ((ksC c).map Value.string).toArray
def kvP (p : Pj) : Value := .agg ((ksP p).map Value.string).toArray
theorem keyC : KeyR Tryd.prog 47 kvC := keyR_strs (n := 3) (by kernel_rfl) ksC (fun _ => rfl) fun a b h => by
  cases a; cases b
  simp only [ksC, List.cons.injEq, and_true] at h
  obtain ⟨rfl, rfl, rfl⟩ := h
  rfl
theorem keyP : KeyR Tryd.prog 81 kvP := keyR_strs (n := 2) (by kernel_rfl) ksP (fun _ => rfl) fun a b h => by
  cases a; cases b
  simp only [ksP, List.cons.injEq, and_true] at h
  obtain ⟨rfl, rfl⟩ := h
  rfl
theorem mapTC : MapT Tryd.prog 73 47 9 (.string emp) (.str emp) where
  ut := by kernel_rfl
  zero := Tryd.zeroValue9
  rep := fun σ gh st => Rep.sc rfl
  one := rfl
theorem mapTP : MapT Tryd.prog 74 81 23 (.slice none 0 0) .nils where
  ut := by kernel_rfl
  zero := Tryd.zeroValue23
  rep := fun σ gh st => Rep.nils
  one := rfl
theorem strs_val {σ : Sig} {gh : List Value} {st : List AO} {v : Value} {l : List Str} (h : RepA σ gh st v (.v (.agg (l.map dstr)))) : v = .agg (l.map Value.string).toArray := by
  obtain ⟨vs, rfl, hl, hr⟩ := h
  congr 1
  apply Array.ext'
  have hl' : vs.length = l.length := by simpa using hl
  apply List.ext_getElem?
  intro i
  by_cases hi : i < l.length
  · have h1 : i < vs.length := by omega
    have := hr i vs[i] (dstr l[i]) (by simp [h1]) (by simp [hi])
    have h3 : vs[i] = .string l[i] := RepA_sc (gh := gh) (st := st) (show RepA σ gh st vs[i] (.d (.sc (.string l[i]))) from this)
    simp [h1, hi, h3]
  · simp only [Array.toList_map, List.getElem?_map]
    rw [List.getElem?_eq_none (by simpa using (by omega : vs.length ≤ i)), List.getElem?_eq_none (by simpa using (by omega : l.length ≤ i))]; rfl

/-- the versions of each project, in the order in which the projects came -/
def prj (c : Coord) : Pj := (c.group, c.name)
def versOf (l : List Coord) : List (Pj × List Str) := l.foldl (fun V c => updM (prj c) (lookM [] (prj c) V ++ [c.version]) V) []
def versT (V : List (Pj × List Str)) (c : Coord) : List (Pj × List Str) := updM (prj c) (lookM [] (prj c) V ++ [c.version]) V
theorem versOf_snoc (l : List Coord) (c : Coord) : versOf (l ++ [c]) = versT (versOf l) c := by unfold versOf; rw [List.foldl_append]; rfl
def hndV (i : Nat) (vs : List Str) : AV := .h i (vs.length - 1) 0 vs.length
def vmp : Nat → List (Pj × List Str) → List (Pj × AV)
  | _, [] => []
  | i, (p, vs) :: r => (p, hndV i vs) :: vmp (i + 1) r
def rowV (vs : List Str) : AO := .row (vs.length - 1) 9 1 (vs.map encStr)
def dynV (V : List (Pj × List Str)) : List AO := V.map fun e => rowV e.2
theorem vmp_length : ∀ (i : Nat) (V : List (Pj × List Str)), (vmp i V).length = V.length
  | _, [] => rfl
  | i, _ :: r => by simp [vmp, vmp_length]
theorem vmp_fnd (p : Pj) : ∀ (i : Nat) (V : List (Pj × List Str)), fndM p (vmp i V) = fndM p V
  | _, [] => rfl
  | i, (q, vs) :: r => by simp only [vmp, fndM, vmp_fnd p (i + 1) r]
theorem vmp_get : ∀ (i k : Nat) (V : List (Pj × List Str)) (p : Pj) (vs : List Str), V[k]? = some (p, vs) → (vmp i V)[k]? = some (p, hndV (i + k) vs)
  | _, _, [], _, _, h => by simp at h
  | i, 0, e :: r, p, vs, h => by simp at h; subst h; rfl
  | i, k + 1, (q, us) :: r, p, vs, h => by
    have := vmp_get (i + 1) k r p vs (by simpa using h)
    simp only [vmp, List.getElem?_cons_succ, this]
    congr 3
    omega
theorem vmp_set : ∀ (i k : Nat) (V : List (Pj × List Str)) (p : Pj) (vs : List Str), k < V.length → (vmp i V).set k (p, hndV (i + k) vs) = vmp i (V.set k (p, vs))
  | _, _, [], _, _, h => by simp at h
  | i, 0, e :: r, p, vs, h => rfl
  | i, k + 1, (q, us) :: r, p, vs, h => by
    have := vmp_set (i + 1) k r p vs (by simpa using h)
    simp only [vmp, List.set_cons_succ]
    rw [← this, show i + (k + 1) = i + 1 + k by omega]
theorem vmp_snoc : ∀ (i : Nat) (V : List (Pj × List Str)) (p : Pj) (vs : List Str), vmp i V ++ [(p, hndV (i + V.length) vs)] = vmp i (V ++ [(p, vs)])
  | _, [], _, _ => rfl
  | i, (q, us) :: r, p, vs => by
    have := vmp_snoc (i + 1) r p vs
    simp only [vmp, List.cons_append, ← this, List.length_cons]
    rw [show i + (r.length + 1) = i + 1 + r.length by omega]
theorem vmp_below : ∀ (i n : Nat) (V : List (Pj × List Str)), i + V.length ≤ n → ((ents kvP (vmp i V)).all fun e => belowN n e.2) = true
  | _, _, [], _ => rfl
  | i, n, (q, us) :: r, h => by
    have := vmp_below (i + 1) n r (by simp at h; omega)
    simp only [vmp, ents, List.map_cons, List.all_cons, Bool.and_eq_true]
    simp only [List.length_cons] at h
    refine ⟨?_, this⟩
    simp only [hndV, belowN, decide_eq_true_eq]
    omega

def textT (d : List Item) : List (Coord × AV) := d.map fun it => (it.coord, AV.d (dstr it.text))
def cellsI (n : Nat) : List AV := [.omap 0, .omap 1, .h 3 n 0 n]
def stI (d : List Item) : List AO :=
  .mp (ents kvC (textT d)) :: .mp (ents kvP (vmp 4 (versOf (d.map (·.coord))))) :: .box 76 (cellsI d.length) :: .row d.length 47 3 ((d.map (·.coord)).map encCoord) :: dynV (versOf (d.map (·.coord)))

/-- none of a list's lists of versions is empty -/
theorem versOf_pos (l : List Coord) : ∀ e ∈ versOf l, 0 < e.2.length := by
  have key : ∀ (V : List (Pj × List Str)) (p : Pj) (vs : List Str), 0 < vs.length → (∀ e ∈ V, 0 < e.2.length) → ∀ e ∈ updM p vs V, 0 < e.2.length := by
    intro V p vs hp
    induction V with
    | nil => intro _ e he; simp [updM] at he; subst he; exact hp
    | cons x r ih =>
      intro hv e he
      obtain ⟨q, us⟩ := x
      unfold updM at he
      split at he
      · rcases List.mem_cons.1 he with rfl | he
        · exact hp
        · exact hv e (by simp [he])
      · rcases List.mem_cons.1 he with rfl | he
        · exact hv _ (by simp)
        · exact ih (fun e he => hv e (by simp [he])) e he
  unfold versOf
  have : ∀ (l : List Coord) (V : List (Pj × List Str)), (∀ e ∈ V, 0 < e.2.length) → ∀ e ∈ l.foldl (fun V c => updM (prj c) (lookM [] (prj c) V ++ [c.version]) V) V, 0 < e.2.length := by
    intro l
    induction l with
    | nil => intro V hV; exact hV
    | cons c r ih => intro V hV; exact ih _ (key V _ _ (by simp) hV)
  exact this l [] (fun e he => by cases he)
theorem updM_length {α β : Type} [DecidableEq α] (p : α) (d : β) : ∀ (V : List (α × β)), (updM p d V).length ≤ V.length + 1
  | [] => by simp [updM]
  | (q, us) :: r => by
    have := updM_length p d r
    unfold updM
    split <;> simp <;> omega
theorem lookM_length (p : Pj) : ∀ (V : List (Pj × List Str)), (lookM [] p V).length ≤ (V.map (fun e => e.2.length)).sum
  | [] => by simp [lookM]
  | (q, us) :: r => by
    have := lookM_length p r
    unfold lookM
    split <;> simp <;> omega
end Go.Proofs.Nw.K
end
section
/- QI2: index.New. -/
open Go Go.RowKit Go.Proofs
set_option linter.unusedVariables false
set_option linter.unusedSimpArgs false
namespace Go.Proofs.Nw.K

universe u
theorem mix_set {α : Type u} : ∀ (k : Nat) (a b : List α) (x : α), a.length = b.length → a[k]? = some x → (a.take k ++ b.drop k).set k x = a.take (k + 1) ++ b.drop (k + 1)
  | _, [], _, _, _, h => by simp at h
  | _, _ :: _, [], _, h, _ => by simp at h
  | 0, x :: a, y :: b, z, _, h => by simp at h; subst h; simp
  | k + 1, x :: a, y :: b, z, hl, h => by
    have := mix_set k a b z (by simpa using hl) (by simpa using h)
    simpa using this
theorem mix_get {α : Type u} (k : Nat) (a b : List α) (h : k ≤ a.length) : (a.take k ++ b.drop k)[k]? = b[k]? := by
  rw [List.getElem?_append_right (by rw [List.length_take]; omega), List.length_take, Nat.min_eq_left h, Nat.sub_self, List.getElem?_drop, Nat.add_zero]
def dataV (V : List (Pj × List Str)) : List (Value × AV) := V.map fun e => (kvP e.1, AV.d (dStrs e.2))
def mixV (k : Nat) (V : List (Pj × List Str)) : List (Value × AV) := (dataV V).take k ++ (ents kvP (vmp 4 V)).drop k
def mixD (k : Nat) (V : List (Pj × List Str)) : List AO := (List.replicate V.length AO.gone).take k ++ (dynV V).drop k

theorem sealV {N : Fm} {env : Env} (A B C : AO) (V : List (Pj × List Str)) : ∀ (k : Nat), k ≤ V.length → Sub N env (A :: .mp (ents kvP (vmp 4 V)) :: B :: C :: dynV V) env (A :: .mp (mixV k V) :: B :: C :: mixD k V)
  | 0, _ => by
    have e1 : mixV 0 V = ents kvP (vmp 4 V) := by simp [mixV]
    have e2 : mixD 0 V = dynV V := by simp [mixD]
    rw [e1, e2]
    exact Sub.refl _ _ _
  | k + 1, hk => by
    refine Sub.trans (sealV A B C V k (by omega)) ?_
    have hlt : k < V.length := by omega
    obtain ⟨⟨p, vs⟩, hv⟩ : ∃ e, V[k]? = some e := ⟨_, List.getElem?_eq_getElem hlt⟩
    have h1 : (mixV k V)[k]? = some (kvP p, .h (4 + k) (vs.length - 1) 0 vs.length) := by
      unfold mixV
      rw [mix_get _ _ _ (by simp [dataV]; omega)]
      simp only [ents, List.getElem?_map, vmp_get 4 k V p vs hv]
      rfl
    have h2 : (mixD k V)[k]? = some (rowV vs) := by
      unfold mixD
      rw [mix_get _ _ _ (by simp; omega)]
      simp [dynV, hv]
    have h3 := Sub.shutEnt (N := N) (env := env) (st := A :: .mp (mixV k V) :: B :: C :: mixD k V) (s := 1) (i := k) (r := k + 4) (d := dStrs vs) rfl (by rw [h1, Nat.add_comm]) (show (mixD k V)[k]? = _ from h2) (by simp) (DLe.tl emp rfl)
    have e1 : (mixV k V).set k (kvP p, .d (dStrs vs)) = mixV (k + 1) V := by
      unfold mixV
      exact mix_set k _ _ _ (by simp [dataV, ents, vmp_length]) (by simp [dataV, hv])
    have e2 : (mixD k V).set k .gone = mixD (k + 1) V := by
      unfold mixD
      exact mix_set k _ _ _ (by simp [dynV]) (by simp [hlt])
    rw [e1] at h3
    have e3 : ((A :: AO.mp (mixV k V) :: B :: C :: mixD k V).set (k + 4) .gone).set 1 (AO.mp (mixV (k + 1) V)) = A :: .mp (mixV (k + 1) V) :: B :: C :: mixD (k + 1) V := by
      rw [← e2]; rfl
    rw [e3] at h3
    exact h3

def newGo (d : List Item) (ok : Coord → Bool) : List Item → Int
  | [] => 0
  | it :: r => bif ok it.coord then (bif (fndM it.coord (textT d)).isSome then 9 else newGo (d ++ [it]) ok r) else 1
def newE (ok : Coord → Bool) (l : List Item) : Int := bif decide ((l.length : Int) > 300) then 3 else newGo [] ok l
def ixCells (d : List Item) : List D :=
  [.map (d.map fun it => (kvC it.coord, dstr it.text)), .map ((versOf (d.map (·.coord))).map fun e => (kvP e.1, dStrs e.2)), .tl Coord 3 encCoord zCoord (sortCo (d.map (·.coord)))]
def ixD (d : List Item) : D := .ref (ixCells d)

theorem sealI {N : Fm} (hN : N.o = 0) {env : Env} (d : List Item) (h2 : env 2 = .ptr 2 0) (h3 : env 3 = .int 0) :
    Sub N env (.mp (ents kvC (textT d)) :: .mp (ents kvP (vmp 4 (versOf (d.map (·.coord))))) :: .box 76 (cellsI d.length) :: .row d.length 47 3 ((sortCo (d.map (·.coord))).map encCoord) :: dynV (versOf (d.map (·.coord)))) (ofL [(2, .d (ixD d)), (3, .int 0)]) [] := by
  generalize hV : versOf (d.map (·.coord)) = V
  refine Sub.trans (sealV _ _ _ V V.length (Nat.le_refl _)) ?_
  have e1 : mixV V.length V = dataV V := by
    unfold mixV
    rw [List.take_of_length_le (by simp [dataV]), List.drop_of_length_le (by simp [ents, vmp_length]), List.append_nil]
  rw [e1]
  refine Sub.trans (Sub.shutMap (s := 2) (i := 1) (r := 1) (es := V.map fun e => (kvP e.1, dStrs e.2)) rfl rfl (by simp [dataV, Function.comp_def])) ?_
  refine Sub.trans (Sub.shutMap (s := 2) (i := 0) (r := 0) (es := d.map fun it => (kvC it.coord, dstr it.text)) rfl rfl (by simp [textT, ents, Function.comp_def])) ?_
  refine Sub.trans (Sub.shutCell (s := 2) (i := 2) (r := 3) (d := .tl Coord 3 encCoord zCoord (sortCo (d.map (·.coord)))) rfl rfl rfl (by simp [sortCo_length]) (DLe.tl zCoord rfl)) ?_
  refine Sub.trans (Sub.shutPtr (bT := 76) (ds := ixCells d) 2 2 h2 (by simp [ixCells, hV]; rfl)) ?_
  exact Sub.ofL _ _ (by rw [hN]; exact Nat.le_refl _) ⟨by simp [upd]; rfl, rfl, by simp [upd, h3], rfl, trivial⟩ rfl rfl
end Go.Proofs.Nw.K
end
section
/- QI3: index.New: the walk. -/
open Go Go.RowKit Go.Proofs
set_option linter.unusedVariables false
set_option linter.unusedSimpArgs false
set_option maxHeartbeats 1000000
namespace Go.Proofs.Nw.K

theorem stI_nil : stI [] = [.mp [], .mp [], .box 76 (cellsI 0), .row 0 47 3 []] := rfl

theorem stI_length (d : List Item) : (stI d).length = (versOf (d.map (·.coord))).length + 4 := by simp [stI, dynV]
theorem stI_below (d : List Item) : ((stI d).all (objBelow (stI d).length)) = true := by
  rw [stI_length]
  generalize hV : versOf (d.map (·.coord)) = V
  simp only [stI, hV, List.all_cons, Bool.and_eq_true]
  refine ⟨?_, ?_, ?_, rfl, ?_⟩
  · simp only [objBelow, ents, textT, List.map_map, List.all_map, List.all_eq_true]
    intro x _
    rfl
  · exact vmp_below 4 _ V (by omega)
  · simp only [objBelow, cellsI, List.all_cons, List.all_nil, Bool.and_true, belowN, Bool.and_eq_true, decide_eq_true_eq]
    omega
  · simp only [dynV, List.all_map, List.all_eq_true]
    intro x _
    rfl
theorem keepI {N : Fm} (hN : N.o = 0) {env : Env} {st : List AO} (d : List Item) (l : List (Nat × AV)) (hst : st.take (stI d).length = stI d) (ha : agree env (stI d).length l) : Sub N env st (ofL l) (stI d) :=
  Sub.ofL l (stI d) (by omega) ha hst (stI_below d)

def lookT (c : Coord) (d : List Item) : Str := lookM emp c (d.map fun it => (it.coord, it.text))
theorem lookT_eq (c : Coord) : ∀ (d : List Item), lookM (AV.str emp) c (textT d) = .v (.one (dstr (lookT c d)))
  | [] => rfl
  | it :: r => by
    have := lookT_eq c r
    unfold lookT textT at *
    simp only [List.map_cons, lookM]
    split
    · rfl
    · exact this
theorem ref_val {c : Coord} (σ : Sig) (gh : List Value) (st : List AO) (v : Value) (h : RepA σ gh st v (.agg (encCoord c))) : v = kvC c := strs_val (l := ksC c) h

theorem mem_updM {α β : Type} [DecidableEq α] (p : α) (x : β) : ∀ (V : List (α × β)) (e : α × β), e ∈ updM p x V → e = (p, x) ∨ e ∈ V
  | [], e, h => by simp [updM] at h; exact .inl h
  | (q, u) :: r, e, h => by
    unfold updM at h
    split at h
    · rename_i he
      rcases List.mem_cons.1 h with rfl | h
      · exact .inl (by rw [he])
      · exact .inr (by simp [h])
    · rcases List.mem_cons.1 h with rfl | h
      · exact .inr (by simp)
      · rcases mem_updM p x r e h with h | h
        · exact .inl h
        · exact .inr (by simp [h])
theorem lookM_mem {β : Type} (p : Pj) (z : β) : ∀ (V : List (Pj × β)), lookM z p V = z ∨ (p, lookM z p V) ∈ V
  | [] => .inl rfl
  | (q, u) :: r => by
    unfold lookM
    split
    · rename_i he; exact .inr (by rw [he]; simp)
    · rcases lookM_mem p z r with h | h
      · exact .inl h
      · exact .inr (by simp [h])
theorem versOf_le (l : List Coord) : ∀ e ∈ versOf l, e.2.length ≤ l.length := by
  have key : ∀ (n : Nat) (l : List Coord), l.length = n → ∀ e ∈ versOf l, e.2.length ≤ n := by
    intro n
    induction n with
    | zero => intro l hl e he; rw [List.eq_nil_of_length_eq_zero hl] at he; cases he
    | succ n ih =>
      intro l hl e he
      obtain ⟨r, c, rfl⟩ : ∃ r c, l = r ++ [c] := ⟨l.dropLast, l.getLast (by intro h; simp [h] at hl), (List.dropLast_concat_getLast _).symm⟩
      have hr : r.length = n := by simpa using hl
      rw [versOf_snoc] at he
      rcases mem_updM _ _ _ _ he with h | h
      · rw [h]
        simp only [List.length_append, List.length_cons, List.length_nil]
        rcases lookM_mem (prj c) [] (versOf r) with h2 | h2
        · rw [h2]; simp
        · have := ih r hr _ h2
          simp only at this
          omega
      · have := ih r hr e h
        omega
  exact key l.length l rfl
theorem lookM_le (l : List Coord) (p : Pj) : (lookM [] p (versOf l)).length ≤ l.length := by
  rcases lookM_mem p [] (versOf l) with h | h
  · rw [h]; simp
  · exact versOf_le l _ h
section
universe u
variable {α : Type} {β : Type u} [DecidableEq α]
def idxM' (k : α) (m : List (α × β)) : Nat := (fndM k m).getD m.length
theorem fndM_lt {k : α} : ∀ {m : List (α × β)} {i : Nat}, fndM k m = some i → i < m.length
  | [], i, h => by cases h
  | (a, x) :: r, i, h => by
    unfold fndM at h
    split at h
    · cases h; simp
    · obtain ⟨j, hj, rfl⟩ := Option.map_eq_some_iff.1 h
      have := fndM_lt hj
      simp; omega
theorem ent_upd (k : α) (m : List (α × AV)) (z y : AV) : (entM z k m).set (idxM k m) (k, y) = updM k y m := by
  unfold entM idxM
  cases h : fndM k m with
  | none =>
    rw [(fndM_none (z := z) (d := y) h).2.1]
    simp
  | some i =>
    obtain ⟨x, _, _, h3⟩ := fndM_some (z := z) (d := y) h
    rw [h3]; rfl
theorem ent_get (k : α) (m : List (α × AV)) (z : AV) : ∃ z', (entM z k m)[idxM k m]? = some (k, z') := by
  unfold entM idxM
  cases h : fndM k m with
  | none => exact ⟨z, by simp⟩
  | some i =>
    obtain ⟨x, h1, _, _⟩ := fndM_some (z := z) (d := z) h
    exact ⟨x, h1⟩
theorem upd_get (k : α) (m : List (α × β)) (y : β) : (updM k y m)[idxM' k m]? = some (k, y) := by
  unfold idxM'
  cases h : fndM k m with
  | none => rw [(fndM_none (z := y) (d := y) h).2.1]; simp
  | some i =>
    obtain ⟨x, _, _, h3⟩ := fndM_some (z := y) (d := y) h
    rw [h3]
    simp [fndM_lt h]
end
theorem updV (p : Pj) (x : List Str) (V : List (Pj × List Str)) : updM p (hndV (4 + idxM' p V) x) (vmp 4 V) = vmp 4 (updM p x V) := by
  unfold idxM'
  cases h : fndM p V with
  | none =>
    rw [(fndM_none (z := x) (d := x) h).2.1, (fndM_none (z := AV.nils) (d := hndV (4 + (none : Option Nat).getD V.length) x) (by rw [vmp_fnd]; exact h)).2.1]
    exact vmp_snoc 4 V p x
  | some i =>
    obtain ⟨u, h1, _, h3⟩ := fndM_some (z := x) (d := x) h
    obtain ⟨u', _, _, h6⟩ := fndM_some (z := AV.nils) (d := hndV (4 + i) x) (show fndM p (vmp 4 V) = some i by rw [vmp_fnd]; exact h)
    rw [h3]
    show updM p (hndV (4 + i) x) (vmp 4 V) = _
    rw [h6]
    exact vmp_set 4 i V p x (fndM_lt h)

def mkI (T : List (Coord × AV)) (mV : List (Pj × AV)) (m n : Nat) (cs : List Coord) (dyn : List AO) : List AO := .mp (ents kvC T) :: .mp (ents kvP mV) :: .box 76 (cellsI m) :: .row n 47 3 (cs.map encCoord) :: dyn
theorem appV {E : Operand → AV} (l : List Coord) (hl : l.length ≤ 300) (x y : Operand) (T : List (Coord × AV)) (mV : List (Pj × AV)) (m n : Nat) (cs : List Coord) (p : Pj) (v : Str) (hx : E x = lookM .nils p (vmp 4 (versOf l))) (hy : E y = .list 1 [[dstr v]]) :
    OpS Tryd.prog (.call { callee := .builtin .append, args := #[x, y], argTypes := #[23, 23] }) E (mkI T mV m n cs (dynV (versOf l))) (hndV (4 + idxM' p (versOf l)) (lookM [] p (versOf l) ++ [v])) (mkI T mV m n cs (dynV (updM p (lookM [] p (versOf l) ++ [v]) (versOf l)))) := by
  have hap := tabOk.ap 23 (9, 1, 16) rfl
  have hle := lookM_le l p
  have hpos := versOf_pos l
  generalize versOf l = V at *
  have hM : (301 : Nat) ≤ maxLen := by decide
  unfold idxM'
  cases h : fndM p V with
  | none =>
    obtain ⟨h1, h2, _⟩ := fndM_none (z := ([] : List Str)) (d := ([] ++ [v] : List Str)) h
    obtain ⟨h3, _, _⟩ := fndM_none (z := AV.nils) (d := AV.nils) (show fndM p (vmp 4 V) = none by rw [vmp_fnd]; exact h)
    rw [h3] at hx
    rw [h1, h2]
    have := op_append_nils (P := Tryd.prog) (E := E) (st := mkI T mV m n cs (dynV V)) 23 9 1 16 x y [[dstr v]] hap hx (by rw [hy]; exact Src.list) (by simp) (by simp; omega)
    have e1 : (mkI T mV m n cs (dynV V)).length = 4 + V.length := by simp [mkI, dynV]; omega
    rw [e1] at this
    have e2 : mkI T mV m n cs (dynV V) ++ [AO.row 0 9 1 [[dstr v]]] = mkI T mV m n cs (dynV (V ++ [(p, [] ++ [v])])) := by simp [mkI, dynV, rowV, encStr]
    rw [e2] at this
    exact this
  | some k =>
    obtain ⟨vs, h1, h2, h3⟩ := fndM_some (z := ([] : List Str)) (d := lookM [] p V ++ [v]) h
    obtain ⟨a, h4, h5, _⟩ := fndM_some (z := AV.nils) (d := AV.nils) (show fndM p (vmp 4 V) = some k by rw [vmp_fnd]; exact h)
    rw [vmp_get 4 k V p vs h1] at h4
    cases h4
    rw [h5] at hx
    rw [h3]
    rw [h2] at hle ⊢
    have hp := hpos _ (List.mem_of_getElem? h1)
    simp only at hp
    have hk : (mkI T mV m n cs (dynV V))[4 + k]? = some (.row (vs.length - 1) 9 1 (vs.map encStr)) := by
      rw [Nat.add_comm]
      show (dynV V)[k]? = _
      simp [dynV, h1, rowV]
    have := op_append_h (P := Tryd.prog) (E := E) (st := mkI T mV m n cs (dynV V)) 23 9 1 16 x y (4 + k) (vs.length - 1) vs.length (vs.map encStr) [[dstr v]] hap hx hk (by rw [hy]; exact Src.list) (by simp; omega) (by simp; omega)
    have e0 : vs.length - 1 + 1 = vs.length := by omega
    have e1 : AV.h (4 + k) (vs.length - 1 + 1) 0 (vs.length + [[dstr v]].length) = hndV (4 + k) (vs ++ [v]) := by simp [hndV, e0]
    have e2 : (mkI T mV m n cs (dynV V)).set (4 + k) (.row (vs.length - 1 + 1) 9 1 ((vs.map encStr).take vs.length ++ [[dstr v]])) = mkI T mV m n cs (dynV (V.set k (p, vs ++ [v]))) := by
      have e3 : AO.row (vs.length - 1 + 1) 9 1 ((vs.map encStr).take vs.length ++ [[dstr v]]) = rowV (vs ++ [v]) := by
        rw [List.take_of_length_le (by simp)]
        simp [rowV, e0, encStr]
      rw [e3, Nat.add_comm 4 k]
      simp only [mkI, List.set_cons_succ, dynV, List.map_set]
    rw [e1, e2] at this
    exact this

theorem appCo {E : Operand → AV} (x y : Operand) (T : List (Coord × AV)) (mV : List (Pj × AV)) (m n : Nat) (cs : List Coord) (c : Coord) (dyn : List AO) (hn : cs.length = n) (hm : n + 1 ≤ 300) (hx : E x = .h 3 n 0 n) (hy : E y = .list 3 [encCoord c]) :
    OpS Tryd.prog (.call { callee := .builtin .append, args := #[x, y], argTypes := #[58, 58] }) E (mkI T mV m n cs dyn) (.h 3 (n + 1) 0 (n + 1)) (mkI T mV m (n + 1) (cs ++ [c]) dyn) := by
  have hM : (301 : Nat) ≤ maxLen := by decide
  have := op_append_h (P := Tryd.prog) (E := E) (st := mkI T mV m n cs dyn) 58 47 3 48 x y 3 n n (cs.map encCoord) [encCoord c] (tabOk.ap 58 _ rfl) hx rfl (by rw [hy]; exact Src.list) (by simp; omega) (by simp; omega)
  rw [List.take_of_length_le (by rw [List.length_map]; omega)] at this
  have e : mkI T mV m (n + 1) (cs ++ [c]) dyn = (mkI T mV m n cs dyn).set 3 (.row (n + 1) 47 3 (cs.map encCoord ++ [encCoord c])) := by simp [mkI]
  rw [e]
  exact this
theorem prj_val {c : Coord} (σ : Sig) (gh : List Value) (st : List AO) (v : Value) (h : RepA σ gh st v (.agg [dstr c.group, dstr c.name])) : v = kvP (prj c) := strs_val (l := ksP (prj c)) h

theorem GQ_op {P : Program} {N : Fm} {ops : Array Oper} {rest : List Oper} {env : Env} {st st' : List AO} {K : Env → List AO → Prop} {dst : Option Tmp} {op : Op} {ty : TypeId} {pos : String} {after : Array Edge} {v : AV} (hd : dOk N dst = true) (h1 : OpS P op (evalE env) st v st')
    (h : GQ P N ops rest (updO env dst v) st' K) : GQ P N ops (⟨dst, op, ty, pos, after, none⟩ :: rest) env st K := ⟨dOk_out hd, .inl ⟨rfl, h1.n h⟩⟩

theorem New_impl (ok : Coord → Bool) (hok : ∀ c, Impl Tryd.prog 50 [.agg (encCoord c)] [.one (dbool (ok c))]) (hsz : ∀ c, ok c = true → c.version.size ≤ 4194303) (l : List Item) :
    Impl Tryd.prog 30 [.one (dItems l)] [.one (if newE ok l = 0 then ixD l else .sc (.pointer none)), .one (dint (newE ok l))] := by
  refine impl_wp tabOk Tryd.func30 rfl rfl (by kernel_rfl) ?_
  refine WP_seq ?_
  refine vcc_sound _ _ _ tabOk (by exact rfl) ?_
  refine WP_scope_cut (α := {x : List Item × List Item // l = x.1 ++ x.2 ∧ newE ok l = newGo x.1 ok x.2 ∧ l.length ≤ 300 ∧ ∀ it ∈ x.1, it.coord.version.size ≤ 4194303}) 0 (fun x => ofL [(0, .d (dItems x.1.2)), (4, .ptr 2 0)]) (fun x => stI x.1.1) (fun x => x.1.2.length) (by rfl) ?_ (fun again => ?_)
  rotate_left
  · refine WP_seq ?_
    refine WP_seq ?_
    refine vcc_sound _ _ _ tabOk (by exact rfl) ?_
    refine vcc_sound _ _ _ tabOk (by exact rfl) ?_
    refine Br.mk (fun hb => ?_) (fun hb => ?_)
    · have hE : newE ok l = 3 := by unfold newE; rw [show decide ((l.length : Int) > 300) = true from hb]; rfl
      rw [hE]
      refine WP_seq ?_
      refine vcc_sound _ _ _ tabOk (by exact rfl) ?_
      refine WP_ret ?_
      exact ⟨DLe.refl _, DLe.refl _, trivial⟩
    have hlen : l.length ≤ 300 := by have : decide ((l.length : Int) > 300) = false := hb; have := of_decide_eq_false this; omega
    have hE : newE ok l = newGo [] ok l := by unfold newE; rw [show decide ((l.length : Int) > 300) = false from hb]; rfl
    refine WP_skip ?_
    refine WP_seq ?_
    refine WP_region ?_
    refine stepO rfl (op_makeMap 73) ?_
    refine stepO rfl (op_makeMap 74) ?_
    refine stepO rfl (op_buildP 76 _ [.sc (.map none), .sc (.map none), .nils] [.o 0, .o 1, .d .nils] [(0, 1), (1, 1), (2, 1)] (by kernel_rfl) (by kernel_rfl) rfl) ?_
    refine stepO rfl (op_boxP 76 _ [.o 0, .o 1, .d .nils] rfl) ?_
    refine stepW tabOk rfl ?_
    refine WPL_nil ?_
    refine WP_sub (Sub.nilsCell (s := 2) (i := 2) 47 3 rfl rfl) ?_
    exact again ⟨([], l), rfl, hE, hlen, fun it h => by cases h⟩ _ _ (Sub.ofL _ _ (Nat.zero_le _) ⟨rfl, rfl, rfl, rfl, trivial⟩ rfl rfl)
  rintro ⟨⟨d, rest⟩, hl, hE, hlen, hok2⟩
  dsimp only at hl hE hok2 ⊢
  refine WP_seq ?_
  refine WP_seq ?_
  refine vcc_sound _ _ _ tabOk (by exact rfl) ?_
  refine vcc_sound _ _ _ tabOk (by exact rfl) ?_
  refine Br.mk (fun hb => ?_) (fun hb => ?_)
  · have hr : rest = [] := by
      have : ((rest.length : Int) == 0) = true := hb
      have : rest.length = 0 := by simpa using this
      exact List.eq_nil_of_length_eq_zero this
    subst hr
    rw [List.append_nil] at hl
    subst hl
    have hE0 : newE ok l = 0 := by rw [hE]; rfl
    rw [hE0, if_pos rfl]
    have key := sortCoord_eff (l.map (·.coord)) (by rw [List.length_map]; omega) (fun c hc => by
      obtain ⟨it, hi, rfl⟩ := List.mem_map.1 hc
      exact hok2 it hi) (st := stI l) (s := 3) (k := l.length) (e := 47) rfl
    rw [List.length_map] at key
    refine WP_seq ?_
    refine vcc_sound _ _ _ tabOk (by exact rfl) ?_
    refine CallE.eff _ _ key ?_
    refine WP_seq ?_
    refine vcc_sound _ _ _ tabOk (by exact rfl) ?_
    refine WP_sub (sealI rfl l rfl rfl) ?_
    refine WP_ret ?_
    exact ⟨DLe.refl _, DLe.refl _, trivial⟩
  refine WP_skip ?_
  obtain ⟨it, rest, rfl⟩ : ∃ it r, rest = it :: r := by
    cases rest with
    | nil =>
      have : ((([] : List Item).length : Int) == 0) = false := hb
      simp at this
    | cons it r => exact ⟨it, r, rfl⟩
  refine WP_seq ?_
  refine WP_region ?_
  refine stepW tabOk rfl ?_
  refine stepW tabOk rfl ?_
  refine Ob.mk (by exact ⟨by simp, by simp⟩) ?_
  refine stepW tabOk rfl ?_
  refine stepW tabOk rfl ?_
  refine stepO rfl (op_alloc 47 _ (tabOk.zb 47 _ rfl)) ?_
  refine stepO rfl (op_store_ptr 47 (.tmp 5) (.tmp 28) 3 (stI d).length 0 (encCoord it.coord) [.str emp, .str emp, .str emp] (tabOk.ld 47 _ rfl) rfl rfl List.getElem?_concat_length rfl (by decide)) ?_
  refine WPL_nil ?_
  refine WP_sub (Sub.shutPtr 5 (stI d).length (ds := encCoord it.coord) rfl (by rw [List.getElem?_set_self (by simp)]; rfl)) ?_
  refine WP_sub (keepI rfl d [(0, .d (dItems (it :: rest))), (4, .ptr 2 0), (5, .d (.ref (encCoord it.coord)))] (by simp) ⟨rfl, rfl, rfl, rfl, rfl, rfl, trivial⟩) ?_
  refine WP_seq ?_
  refine WP_seq ?_
  refine vcc_sound _ _ _ tabOk (by exact rfl) ?_
  refine CallD.mk _ _ (hok it.coord) (by exact ⟨DLe.refl _, trivial⟩) ?_
  refine vcc_sound _ _ _ tabOk (by exact rfl) ?_
  refine Br.mk (fun hb => ?_) (fun hb => ?_)
  · have hbo : ok it.coord = false := by cases h : ok it.coord with | false => rfl | true => exact absurd hb (by rw [h]; decide)
    have hE1 : newE ok l = 1 := by rw [hE, newGo, hbo]; rfl
    rw [hE1]
    refine WP_seq ?_
    refine vcc_sound _ _ _ tabOk (by exact rfl) ?_
    refine WP_ret ?_
    exact ⟨DLe.refl _, DLe.refl _, trivial⟩
  have hbo : ok it.coord = true := by cases h : ok it.coord with | true => rfl | false => exact absurd hb (by rw [h]; decide)
  refine WP_skip ?_
  refine WP_seq ?_
  refine WP_seq ?_
  refine WP_draw3 11 (List.replicate 11 false) [stI d] tabOk.mixed (by kernel_rfl) rfl ?_
  have hin : ∀ s ∈ [stI d], s = stI d := fun s hs => by simpa using hs
  refine WT_puk tabOk rfl rfl (PuK.mk _ (fun st => ⟨rfl, rfl⟩) ?_)
  refine WT_puk tabOk rfl rfl (PuK.mk _ (fun st => ⟨rfl, rfl⟩) ?_)
  refine WT_puk tabOk rfl rfl (PuK.mk _ (fun st => ⟨rfl, rfl⟩) ?_)
  refine WT_pure rfl rfl (fun s hs => by rw [hin s hs]; exact op_load_ptr1 73 (.tmp 35) 1 2 0 (.omap 0) (cellsI d.length) (tabOk.ld 73 _ rfl) rfl rfl rfl) ?_
  refine WT_puk tabOk rfl rfl (PuK.mk _ (fun st => ⟨rfl, rfl⟩) ?_)
  refine WT_pure rfl rfl (fun s hs => by rw [hin s hs]; exact op_lookupG2 73 (.tmp 36) (.tmp 37) 0 (textT d) it.coord keyC mapTC _ (lookT_eq _ d) rfl rfl ref_val) ?_
  refine WT_puk tabOk rfl rfl (PuK.mk _ (fun st => ⟨rfl, rfl⟩) ?_)
  refine WT_puk tabOk rfl rfl (PuK.mk _ (fun st => ⟨rfl, rfl⟩) ?_)
  refine WT_puk tabOk rfl rfl (PuK.mk _ (fun st => ⟨rfl, rfl⟩) ?_)
  refine WT_puk tabOk rfl rfl (PuK.mk _ (fun st => ⟨rfl, rfl⟩) ?_)
  refine WT_puk tabOk rfl rfl (PuK.mk _ (fun st => ⟨rfl, rfl⟩) ?_)
  intro s hs
  obtain rfl : stI d = s := by simpa using hs
  refine WP_seq ?_
  refine vcc_sound _ _ _ tabOk (by exact rfl) ?_
  refine vcc_sound _ _ _ tabOk (by exact rfl) ?_
  refine Br.mk (fun hb => ?_) (fun hb => ?_)
  · have hb : (fndM it.coord (textT d)).isSome = true := hb
    have hE1 : newE ok l = 9 := by rw [hE, newGo, hbo, hb]; rfl
    rw [hE1]
    refine WP_seq ?_
    refine vcc_sound _ _ _ tabOk (by exact rfl) ?_
    refine WP_ret ?_
    exact ⟨DLe.refl _, DLe.refl _, trivial⟩
  have hnone : fndM it.coord (textT d) = none := by
    have hb : (fndM it.coord (textT d)).isSome = false := hb
    cases h : fndM it.coord (textT d) with
    | none => rfl
    | some _ => rw [h] at hb; cases hb
  refine WP_skip ?_
  refine WP_seq ?_
  refine WP_region ?_
  refine stepW tabOk rfl ?_
  refine stepW tabOk rfl ?_
  refine stepW tabOk rfl ?_
  refine stepW tabOk rfl ?_
  refine stepW tabOk rfl ?_
  refine stepO rfl (op_alloc 81 _ (tabOk.zb 81 _ rfl)) ?_
  refine stepO rfl (op_store_ptr 81 (.tmp 8) (.tmp 46) 2 (stI d).length 0 [dstr it.coord.group, dstr it.coord.name] [.str emp, .str emp] (tabOk.ld 81 _ rfl) rfl rfl List.getElem?_concat_length rfl (by decide)) ?_
  refine WPL_nil ?_
  refine WP_sub (Sub.shutPtr 8 (stI d).length (ds := [dstr it.coord.group, dstr it.coord.name]) rfl (by rw [List.getElem?_set_self (by simp)]; rfl)) ?_
  refine WP_sub (keepI rfl d [(0, .d (dItems (it :: rest))), (4, .ptr 2 0), (5, .d (.ref (encCoord it.coord))), (8, .d (.ref [dstr it.coord.group, dstr it.coord.name]))] (by simp) ⟨rfl, rfl, rfl, rfl, rfl, rfl, rfl, rfl, trivial⟩) ?_
  refine WP_seq ?_
  have hd3 : d.length + 1 ≤ 300 := by rw [hl] at hlen; simp at hlen; omega
  have happ : ∀ {E : Operand → AV} (x y : Operand), E x = lookM .nils (prj it.coord) (vmp 4 (versOf (d.map (·.coord)))) → E y = .list 1 [[dstr it.coord.version]] → OpS Tryd.prog _ E _ _ _ := fun {E} x y hx hy => appV (d.map (·.coord)) (by rw [List.length_map]; omega) x y (textT d) (vmp 4 (versOf (d.map (·.coord)))) d.length d.length (d.map (·.coord)) (prj it.coord) it.coord.version hx hy
  have hsn : versOf (d.map (·.coord) ++ [it.coord]) = updM (prj it.coord) (lookM [] (prj it.coord) (versOf (d.map (·.coord))) ++ [it.coord.version]) (versOf (d.map (·.coord))) := versOf_snoc _ _
  have hst0 : stI d = mkI (textT d) (vmp 4 (versOf (d.map (·.coord)))) d.length d.length (d.map (·.coord)) (dynV (versOf (d.map (·.coord)))) := rfl
  have hst1 : stI (d ++ [it]) = mkI (textT d ++ [(it.coord, AV.d (dstr it.text))]) (vmp 4 (versOf (d.map (·.coord) ++ [it.coord]))) (d.length + 1) (d.length + 1) (d.map (·.coord) ++ [it.coord]) (dynV (versOf (d.map (·.coord) ++ [it.coord]))) := by
    unfold stI mkI textT
    simp only [List.map_append, List.map_cons, List.map_nil, List.length_append, List.length_cons, List.length_nil]
  rw [hsn] at hst1
  rw [hst0]
  generalize versOf (d.map (·.coord)) = V at happ hst1 ⊢
  generalize lookM [] (prj it.coord) V ++ [it.coord.version] = A at happ hst1 ⊢
  obtain ⟨z1, hz1⟩ := ent_get it.coord (textT d) (AV.str emp)
  obtain ⟨z2, hz2⟩ := ent_get (prj it.coord) (vmp 4 V) AV.nils
  have hok6 : okSingle (mkI ((entM (AV.str emp) it.coord (textT d)).set (idxM it.coord (textT d)) (it.coord, AV.d (dstr it.text))) (entM AV.nils (prj it.coord) (vmp 4 V)) d.length (d.length + 1) (d.map (·.coord) ++ [it.coord]) (dynV (updM (prj it.coord) A V))) (hndV (4 + idxM' (prj it.coord) V) A) := by
    refine ⟨9, 1, A.map encStr, ?_⟩
    rw [Nat.add_comm 4]
    show (dynV (updM (prj it.coord) A V))[idxM' (prj it.coord) V]? = _
    rw [dynV, List.getElem?_map, upd_get]
    rfl
  refine WP_draw3 38 [false, false, false, false, false, false, false, false, false, false, false, false, false, false, false, false, false, false, false, false, true, false, false, false, true, false, false, false, false, false, false, true, true, false, true, true, false, true] [(mkI (textT d) (vmp 4 V) d.length d.length (d.map (·.coord)) (dynV V)), (mkI (textT d) (vmp 4 V) d.length d.length (d.map (·.coord)) (dynV V)), (mkI (textT d) (vmp 4 V) d.length d.length (d.map (·.coord)) (dynV (updM (prj it.coord) A V))), (mkI (textT d) (vmp 4 V) d.length (d.length + 1) (d.map (·.coord) ++ [it.coord]) (dynV (updM (prj it.coord) A V))), (mkI (entM (AV.str emp) it.coord (textT d)) (vmp 4 V) d.length (d.length + 1) (d.map (·.coord) ++ [it.coord]) (dynV (updM (prj it.coord) A V))), (mkI ((entM (AV.str emp) it.coord (textT d)).set (idxM it.coord (textT d)) (it.coord, AV.d (dstr it.text))) (vmp 4 V) d.length (d.length + 1) (d.map (·.coord) ++ [it.coord]) (dynV (updM (prj it.coord) A V))), (mkI ((entM (AV.str emp) it.coord (textT d)).set (idxM it.coord (textT d)) (it.coord, AV.d (dstr it.text))) (entM AV.nils (prj it.coord) (vmp 4 V)) d.length (d.length + 1) (d.map (·.coord) ++ [it.coord]) (dynV (updM (prj it.coord) A V))), (mkI ((entM (AV.str emp) it.coord (textT d)).set (idxM it.coord (textT d)) (it.coord, AV.d (dstr it.text))) ((entM AV.nils (prj it.coord) (vmp 4 V)).set (idxM (prj it.coord) (vmp 4 V)) (prj it.coord, hndV (4 + idxM' (prj it.coord) V) A)) d.length (d.length + 1) (d.map (·.coord) ++ [it.coord]) (dynV (updM (prj it.coord) A V)))] tabOk.mixed (by kernel_rfl) rfl ?_
  have hs2 : ∀ s ∈ [(mkI (textT d) (vmp 4 V) d.length d.length (d.map (·.coord)) (dynV V)), (mkI (textT d) (vmp 4 V) d.length d.length (d.map (·.coord)) (dynV V)), (mkI (textT d) (vmp 4 V) d.length d.length (d.map (·.coord)) (dynV (updM (prj it.coord) A V))), (mkI (textT d) (vmp 4 V) d.length (d.length + 1) (d.map (·.coord) ++ [it.coord]) (dynV (updM (prj it.coord) A V))), (mkI (entM (AV.str emp) it.coord (textT d)) (vmp 4 V) d.length (d.length + 1) (d.map (·.coord) ++ [it.coord]) (dynV (updM (prj it.coord) A V))), (mkI ((entM (AV.str emp) it.coord (textT d)).set (idxM it.coord (textT d)) (it.coord, AV.d (dstr it.text))) (vmp 4 V) d.length (d.length + 1) (d.map (·.coord) ++ [it.coord]) (dynV (updM (prj it.coord) A V))), (mkI ((entM (AV.str emp) it.coord (textT d)).set (idxM it.coord (textT d)) (it.coord, AV.d (dstr it.text))) (entM AV.nils (prj it.coord) (vmp 4 V)) d.length (d.length + 1) (d.map (·.coord) ++ [it.coord]) (dynV (updM (prj it.coord) A V))), (mkI ((entM (AV.str emp) it.coord (textT d)).set (idxM it.coord (textT d)) (it.coord, AV.d (dstr it.text))) ((entM AV.nils (prj it.coord) (vmp 4 V)).set (idxM (prj it.coord) (vmp 4 V)) (prj it.coord, hndV (4 + idxM' (prj it.coord) V) A)) d.length (d.length + 1) (d.map (·.coord) ++ [it.coord]) (dynV (updM (prj it.coord) A V)))], s[2]? = some (.box 76 (cellsI d.length)) := by
    intro s hs
    simp only [List.mem_cons, List.not_mem_nil, or_false] at hs
    rcases hs with rfl | rfl | rfl | rfl | rfl | rfl | rfl | rfl <;> rfl
  refine WT_puk tabOk rfl rfl (PuK.mk _ (fun st => ⟨rfl, rfl⟩) ?_)
  refine WT_puk tabOk rfl rfl (PuK.mk _ (fun st => ⟨rfl, rfl⟩) ?_)
  refine WT_puk tabOk rfl rfl (PuK.mk _ (fun st => ⟨rfl, rfl⟩) ?_)
  refine WT_pure rfl rfl (fun s hs => op_load_ptr1 73 (.tmp 49) 1 2 0 (.omap 0) (cellsI d.length) (tabOk.ld 73 _ rfl) rfl (hs2 s hs) rfl) ?_
  refine WT_puk tabOk rfl rfl (PuK.mk _ (fun st => ⟨rfl, rfl⟩) ?_)
  refine WT_puk tabOk rfl rfl (PuK.mk _ (fun st => ⟨rfl, rfl⟩) ?_)
  refine WT_puk tabOk rfl rfl (PuK.mk _ (fun st => ⟨rfl, rfl⟩) ?_)
  refine WT_puk tabOk rfl rfl (PuK.mk _ (fun st => ⟨rfl, rfl⟩) ?_)
  refine WT_pure rfl rfl (fun s hs => op_load_ptr1 74 (.tmp 54) 1 2 1 (.omap 1) (cellsI d.length) (tabOk.ld 74 _ rfl) rfl (hs2 s hs) rfl) ?_
  refine WT_puk tabOk rfl rfl (PuK.mk _ (fun st => ⟨rfl, rfl⟩) ?_)
  refine WT_puk tabOk rfl rfl (PuK.mk _ (fun st => ⟨rfl, rfl⟩) ?_)
  refine WT_puk tabOk rfl rfl (PuK.mk _ (fun st => ⟨rfl, rfl⟩) ?_)
  refine WT_puk tabOk rfl rfl (PuK.mk _ (fun st => Ob.mk ⟨by simp, by simp⟩ ⟨rfl, rfl⟩) ?_)
  refine WT_puk tabOk rfl rfl (PuK.mk _ (fun st => ⟨rfl, rfl⟩) ?_)
  refine WT_puk tabOk rfl rfl (PuK.mk _ (fun st => ⟨rfl, rfl⟩) ?_)
  refine WT_puk tabOk rfl rfl (PuK.mk _ (fun st => ⟨rfl, rfl⟩) ?_)
  refine WT_puk tabOk rfl rfl (PuK.mk _ (fun st => ⟨rfl, rfl⟩) ?_)
  refine WT_puk tabOk rfl rfl (PuK.mk _ (fun st => ⟨rfl, rfl⟩) ?_)
  refine WT_pure rfl rfl (fun s hs => op_load_ptr1 74 (.tmp 64) 1 2 1 (.omap 1) (cellsI d.length) (tabOk.ld 74 _ rfl) rfl (hs2 s hs) rfl) ?_
  refine WT_puk tabOk rfl rfl (PuK.mk _ (fun st => ⟨rfl, rfl⟩) ?_)
  refine WT_turn rfl (s := (mkI (textT d) (vmp 4 V) d.length d.length (d.map (·.coord)) (dynV V))) (s' := (mkI (textT d) (vmp 4 V) d.length d.length (d.map (·.coord)) (dynV V))) rfl rfl rfl (op_lookupG 74 (.tmp 65) (.tmp 66) 1 (vmp 4 V) (prj it.coord) keyP mapTP rfl rfl prj_val) ?_
  refine WT_puk tabOk rfl rfl (PuK.mk _ (fun st => ⟨rfl, rfl⟩) ?_)
  refine WT_puk tabOk rfl rfl (PuK.mk _ (fun st => ⟨rfl, rfl⟩) ?_)
  refine WT_puk tabOk rfl rfl (PuK.mk (.list 1 [[dstr it.coord.version]]) (fun st => NewS.list ⟨rfl, rfl⟩) ?_)
  refine WT_turn rfl (s := (mkI (textT d) (vmp 4 V) d.length d.length (d.map (·.coord)) (dynV V))) (s' := (mkI (textT d) (vmp 4 V) d.length d.length (d.map (·.coord)) (dynV (updM (prj it.coord) A V)))) rfl rfl rfl (happ (.tmp 67) (.tmp 70) rfl rfl) ?_
  refine WT_puk tabOk rfl rfl (PuK.mk _ (fun st => ⟨rfl, rfl⟩) ?_)
  refine WT_puk tabOk rfl rfl (PuK.mk _ (fun st => ⟨rfl, rfl⟩) ?_)
  refine WT_puk tabOk rfl rfl (PuK.mk _ (fun st => ⟨rfl, rfl⟩) ?_)
  refine WT_pure rfl rfl (fun s hs => op_load_ptr1 58 (.tmp 74) 1 2 2 (.h 3 d.length 0 d.length) (cellsI d.length) (tabOk.ld 58 _ rfl) rfl (hs2 s hs) rfl) ?_
  refine WT_puk tabOk rfl rfl (PuK.mk _ (fun st => ⟨rfl, rfl⟩) ?_)
  refine WT_puk tabOk rfl rfl (PuK.mk (.list 3 [encCoord it.coord]) (fun st => NewS.list ⟨rfl, rfl⟩) ?_)
  refine WT_turn rfl (s := (mkI (textT d) (vmp 4 V) d.length d.length (d.map (·.coord)) (dynV (updM (prj it.coord) A V)))) (s' := (mkI (textT d) (vmp 4 V) d.length (d.length + 1) (d.map (·.coord) ++ [it.coord]) (dynV (updM (prj it.coord) A V)))) rfl rfl rfl (appCo (.tmp 75) (.tmp 77) _ _ _ _ _ it.coord _ (by simp) hd3 rfl rfl) ?_
  refine WT_turn rfl (s := (mkI (textT d) (vmp 4 V) d.length (d.length + 1) (d.map (·.coord) ++ [it.coord]) (dynV (updM (prj it.coord) A V)))) (s' := (mkI (entM (AV.str emp) it.coord (textT d)) (vmp 4 V) d.length (d.length + 1) (d.map (·.coord) ++ [it.coord]) (dynV (updM (prj it.coord) A V)))) rfl rfl rfl (op_mapEntryG 73 (.tmp 50) (.tmp 51) 0 (textT d) it.coord keyC mapTC rfl rfl ref_val) ?_
  refine WT_puk tabOk rfl rfl (PuK.mk _ (fun st => ⟨rfl, rfl⟩) ?_)
  refine WT_turn rfl (s := (mkI (entM (AV.str emp) it.coord (textT d)) (vmp 4 V) d.length (d.length + 1) (d.map (·.coord) ++ [it.coord]) (dynV (updM (prj it.coord) A V)))) (s' := (mkI ((entM (AV.str emp) it.coord (textT d)).set (idxM it.coord (textT d)) (it.coord, AV.d (dstr it.text))) (vmp 4 V) d.length (d.length + 1) (d.map (·.coord) ++ [it.coord]) (dynV (updM (prj it.coord) A V)))) rfl rfl rfl (op_entryStoreG 73 (.tmp 50) (.tmp 80) (.tmp 61) 0 (entM (AV.str emp) it.coord (textT d)) it.coord (idxM it.coord (textT d)) z1 keyC rfl rfl rfl hz1 rfl) ?_
  refine WT_turn rfl (s := (mkI ((entM (AV.str emp) it.coord (textT d)).set (idxM it.coord (textT d)) (it.coord, AV.d (dstr it.text))) (vmp 4 V) d.length (d.length + 1) (d.map (·.coord) ++ [it.coord]) (dynV (updM (prj it.coord) A V)))) (s' := (mkI ((entM (AV.str emp) it.coord (textT d)).set (idxM it.coord (textT d)) (it.coord, AV.d (dstr it.text))) (entM AV.nils (prj it.coord) (vmp 4 V)) d.length (d.length + 1) (d.map (·.coord) ++ [it.coord]) (dynV (updM (prj it.coord) A V)))) rfl rfl rfl (op_mapEntryG 74 (.tmp 55) (.tmp 56) 1 (vmp 4 V) (prj it.coord) keyP mapTP rfl rfl prj_val) ?_
  refine WT_puk tabOk rfl rfl (PuK.mk _ (fun st => ⟨rfl, rfl⟩) ?_)
  refine WT_turn rfl (s := (mkI ((entM (AV.str emp) it.coord (textT d)).set (idxM it.coord (textT d)) (it.coord, AV.d (dstr it.text))) (entM AV.nils (prj it.coord) (vmp 4 V)) d.length (d.length + 1) (d.map (·.coord) ++ [it.coord]) (dynV (updM (prj it.coord) A V)))) (s' := (mkI ((entM (AV.str emp) it.coord (textT d)).set (idxM it.coord (textT d)) (it.coord, AV.d (dstr it.text))) ((entM AV.nils (prj it.coord) (vmp 4 V)).set (idxM (prj it.coord) (vmp 4 V)) (prj it.coord, hndV (4 + idxM' (prj it.coord) V) A)) d.length (d.length + 1) (d.map (·.coord) ++ [it.coord]) (dynV (updM (prj it.coord) A V)))) rfl rfl rfl (op_entryStoreG 74 (.tmp 55) (.tmp 82) (.tmp 71) 1 (entM AV.nils (prj it.coord) (vmp 4 V)) (prj it.coord) (idxM (prj it.coord) (vmp 4 V)) z2 keyP rfl rfl rfl hz2 hok6) ?_
  intro s hs
  obtain rfl : (mkI ((entM (AV.str emp) it.coord (textT d)).set (idxM it.coord (textT d)) (it.coord, AV.d (dstr it.text))) ((entM AV.nils (prj it.coord) (vmp 4 V)).set (idxM (prj it.coord) (vmp 4 V)) (prj it.coord, hndV (4 + idxM' (prj it.coord) V) A)) d.length (d.length + 1) (d.map (·.coord) ++ [it.coord]) (dynV (updM (prj it.coord) A V))) = s := by simpa using hs
  refine GQ_op rfl (op_nilCheck_ptr (.tmp 57) 2 0 rfl) ?_
  refine GQ_op rfl (op_fieldAddr_ptr 76 (.tmp 83) 2 2 0 2 (tabOk.fo 76 2 _ rfl) rfl) ?_
  refine GQ_op rfl (op_store_ptr1 58 (.tmp 84) (.tmp 78) 2 (0 + 2) (.h 3 (d.length + 1) 0 (d.length + 1)) (cellsI d.length) (tabOk.ld 58 _ rfl) rfl rfl rfl ⟨47, 3, _, rfl⟩ (by show 2 < 3; decide)) ?_
  have hfin : ((mkI ((entM (AV.str emp) it.coord (textT d)).set (idxM it.coord (textT d)) (it.coord, AV.d (dstr it.text))) ((entM AV.nils (prj it.coord) (vmp 4 V)).set (idxM (prj it.coord) (vmp 4 V)) (prj it.coord, hndV (4 + idxM' (prj it.coord) V) A)) d.length (d.length + 1) (d.map (·.coord) ++ [it.coord]) (dynV (updM (prj it.coord) A V)))).set 2 (.box 76 ((cellsI d.length).take (0 + 2) ++ [.h 3 (d.length + 1) 0 (d.length + 1)] ++ (cellsI d.length).drop (0 + 2 + 1))) = stI (d ++ [it]) := by
    rw [hst1, ent_upd, ent_upd, updV, (fndM_none (z := AV.str emp) (d := AV.d (dstr it.text)) hnone).2.1]
    rfl
  rw [hfin]
  refine WP_seq ?_
  refine vcc_sound _ _ _ tabOk (by exact rfl) ?_
  refine Ob.mk (by decide) ?_
  refine Ob.mk (by show 1 ≤ (it :: rest).length; simp) ?_
  refine WP_goto ?_
  refine ⟨rfl, ⟨(d ++ [it], rest), by rw [hl]; simp, ?_, hlen, fun x hx => ?_⟩, by show rest.length < (it :: rest).length; simp, keepI rfl (d ++ [it]) [(0, .d (dItems rest)), (4, .ptr 2 0)] (List.take_length ..) ⟨rfl, rfl, rfl, rfl, trivial⟩⟩
  · rw [hE, newGo, hbo, hnone]; rfl
  · rcases List.mem_append.1 hx with h | h
    · exact hok2 x h
    · have : x = it := by simpa using h
      subst this
      exact hsz _ hbo
end Go.Proofs.Nw.K
end
section
/- K35: the bytes of a string, as data; the library's IndexByteString. -/
open Go Go.RowKit
set_option linter.unusedVariables false
set_option linter.unusedSimpArgs false
namespace Go.Proofs.Nw.K

/-- bytes of one's own are given out -/
theorem seal_brow {w0 : World} {σ0 σ gh st w} (hb : Base w0 σ0 σ gh st w) {s e b : Nat} {ns : List Int} (hst : st[s]? = some (.brow e ns)) (hg : gh[s]? = some (.pointer (some ⟨b, 0, none⟩))) :
    ∃ σ', Fut w0 σ0 σ gh st σ' gh (st.set s .gone) w ∧ ∀ (i : Nat) n, ns[i]? = some n → σ'.cell b i = some (.int .u8 n) := by
  obtain ⟨vals, fz, e2, e3, e4, e5, e6, hu⟩ := brow_cells hb hst hg
  have keep0 : ∀ v a, RepA σ gh st v a → RepA σ gh (st.set s .gone) v a := fun v a h => h.set hst _ (fun _ _ _ _ h => by cases h)
  have hslt : s < st.length := (List.getElem?_eq_some_iff.1 hst).1
  have hle := Sig.le_seal hu (vals.toList.take ns.length)
  have hcell : ∀ (i : Nat) n, ns[i]? = some n → (vals.toList.take ns.length)[i]? = some (.int .u8 n) := fun i n hn => by
    have hi : i < ns.length := (List.getElem?_eq_some_iff.1 hn).1
    rw [List.getElem?_take_of_lt hi, Array.getElem?_toList]
    exact e6 i n hn
  have keep : ∀ v a, RepA σ gh st v a → RepA (σ.shut b (vals.toList.take ns.length)) gh (st.set s .gone) v a := fun v a h => (keep0 v a h).sig hle
  refine ⟨σ.shut b (vals.toList.take ns.length), ⟨⟨hb.below, fun b' h => ?_, ⟨fun b' o v hv => ?_, hb.sl.obj⟩, by simp [hb.len], hb.sep, hb.lt, fun t o1 g1 h1 h2 => ?_⟩, keep⟩, fun i n hn => ?_⟩
  · have : b' ≠ b := by omega
    have := hb.ext b' h
    exact ⟨by funext o; simp only [Sig.shut]; rw [if_neg ‹_›]; exact congrFun this.1 o, this.2⟩
  · simp only [Sig.shut] at hv
    split at hv
    · rename_i e'; subst e'
      have ho : o < ns.length := by
        have := (List.getElem?_eq_some_iff.1 hv).1
        rw [List.length_take] at this; omega
      have h1 := hcell o ns[o] (List.getElem?_eq_getElem ho)
      rw [hv] at h1
      cases h1
      refine ⟨?_, rfl⟩
      rw [cell_of_row w b' o vals e fz e3]
      have := e6 o ns[o] (List.getElem?_eq_getElem ho)
      simpa using this
    · exact hb.sl.cell b' o v hv
  · rw [List.getElem?_set] at h1
    split at h1
    · simp [hslt] at h1; subst h1; trivial
    · rename_i hne
      refine (hb.obj t o1 g1 h1 h2).sig hle (fun b' hbk hu' => hu'.shut ?_ _) keep
      intro e'; subst e'
      exact hb.sep s t b' hne (by rw [hg]; simp [blkOf]) (by rw [h2]; exact hbk)
  · simp only [Sig.shut, if_true]
    exact hcell i n hn

def encByte (n : Int) : List D := [.sc (.int .u8 n)]
section
variable {P : Program} {E : Operand → AV} {st : List AO}
theorem op_str2bytesD (s d e : TypeId) (x : Operand) (str : ByteArray) (hs : P.underlying s = some .string) (hd : P.underlying d = some (.slice e)) (he : P.underlying e = some (.int .u8)) (hx : E x = .str str) (h0 : 0 < str.size) (hm : str.size ≤ maxLen) :
    OpS P (.convert s d x) E st (.d (.tl Int 1 encByte 0 (bytesI str))) (st ++ [.gone]) := by
  intro o ho w0 σ0 σ gh ρ w hb hρ
  have h1 := hρ x (by simp [Op.operands])
  rw [hx] at h1
  have h1 := RepA_sc h1
  have hrun : (execOp ρ o).run P w = .ok (.value (.slice (some ⟨w.heap.size, 0, none⟩) str.size (grownCap w str.size 0 e))) (Lib.bytesWorld w e str) := by
    simp [execOp, ho, h1, Lib.run_convert_string_bytes w s d e str hs hd he]
  rw [hrun]
  have hg : w.grownBy (Lib.bytesWorld w e str) none := ⟨rfl, rfl, rfl, by rw [Lib.bytesWorld_size]; omega, fun k hk _ => Lib.bytesWorld_at_old w e str k hk⟩
  have hf := hb.push hg (.pointer (some ⟨w.heap.size, 0, none⟩)) (.brow e (bytesI str)) (fun b hb' => by simp [blkOf] at hb'; subst hb'; rw [Lib.bytesWorld_size]; omega)
    ⟨w.heap.size, Lib.bytesCells w e str, _, rfl, hb.below.size, Lib.bytesWorld_at_new w e str, Nat.le_refl _, by rw [bytesI_length]; simp [Lib.bytesCells], fun i n hn => by
      simp only [bytesI, List.getElem?_map, Option.map_eq_some_iff] at hn
      obtain ⟨c, hc, rfl⟩ := hn
      have hi : i < str.data.size := by simpa using (List.getElem?_eq_some_iff.1 hc).1
      simp only [Lib.bytesCells, Array.getElem?_append, Array.size_map, hi, if_true, Array.getElem?_map]
      simp only [Array.getElem?_toList] at hc
      simp [hc], hb.sl.fresh (Nat.le_refl _)⟩
  obtain ⟨σ', hf2, hc⟩ := seal_brow hf.base (s := st.length) (e := e) (b := w.heap.size) (ns := bytesI str) (by simp) (by rw [← hb.len]; simp)
  have e1 : (st ++ [AO.brow e (bytesI str)]).set st.length .gone = st ++ [.gone] := by simp
  rw [e1] at hf2
  have hl := bytesI_length str
  refine ⟨σ', _, ⟨hf2.base, fun v a h => hf2.keep _ _ (hf.keep _ _ h)⟩, ?_⟩
  refine Rep.tl (Rep.list (fun i _ => .int .u8 ((bytesI str).getD i 0)) (by simp [hl]) h0 (grownCap_ge w _ _ _) (grownCap_le_maxLen w _ _ _ hm) (fun i x hx => ?_) (fun i j hi hj => ?_) (fun i j x d hx hd => ?_))
  · simp only [List.getElem?_map, Option.map_eq_some_iff] at hx
    obtain ⟨n, _, rfl⟩ := hx
    rfl
  · have hi' : i < (bytesI str).length := by omega
    have := hc i (bytesI str)[i] (List.getElem?_eq_getElem hi')
    rw [show 0 + i * 1 + j = i by omega, this]
    simp [hi']
  · simp only [List.getElem?_map, Option.map_eq_some_iff] at hx
    obtain ⟨n, hn, rfl⟩ := hx
    have hj : j = 0 := by
      have := (List.getElem?_eq_some_iff.1 hd).1
      simp [encByte] at this; omega
    subst hj
    simp [encByte] at hd
    subst hd
    have : (bytesI str).getD i 0 = n := by simp [hn]
    rw [this]
    exact Rep.sc rfl

theorem op_idxByte (x a b : Operand) (ts : Array TypeId) (f : FuncId) (fn : Func) (hfn : P.funcs[f]? = some fn) (hname : (fn.name == "runtime.NumGoroutine") = false) (hbo : fn.body.isNone = true) (hn : Extern.findNext fn = none) (hext : Extern.find fn = some Extern.BytealgIndexByte.indexByte)
    (s : ByteArray) (c : Int) (hx : E x = fnAV f) (ha : E a = .str s) (hbb : E b = .d (.sc (.int .u8 c))) :
    OpS P (.call { callee := .value x, args := #[a, b], argTypes := ts }) E st (.int (Lib.indexByte s.data.toList c.toNat.toUInt8)) st :=
  op_pure fun o ho w0 σ0 σ gh ρ w hb hρ => by
    have h1 := hρ x (by simp [Op.operands, Call.operands])
    have h2 := hρ a (by simp [Op.operands, Call.operands])
    have h3 := hρ b (by simp [Op.operands, Call.operands])
    rw [hx] at h1
    rw [ha] at h2
    rw [hbb] at h3
    have h1 := RepA_sc h1
    have h2 := RepA_sc h2
    have h3 := RepA_sc h3
    refine ⟨_, ?_, RepA_of_sc rfl⟩
    simp only [execOp, ho, resolve, h1, Deferred.ofValue, Sem.run_bind, Sem.run_pure, Result.andThen_ok, invoke]
    have : #[] ++ Array.map ρ #[a, b] ++ #[] = #[.string s, .int .u8 c] := by simp [h2, h3]
    rw [this, run_callFunc_extern hfn hname hbo hn hext, Lib.run_indexByteString]
    rfl
end
end Go.Proofs.Nw.K
end
