/- K23: a map of one's own, keyed by strings. -/
import Derived.Test.YtjfpnnmagnljnaaNwK20
import Derived.MapKept
import Derived.Carry
open Go Go.RowKit Go.MapKept
set_option linter.unusedVariables false
set_option linter.unusedSimpArgs false
namespace Go.Proofs.Nw.K

def strE (p : ByteArray × D) : Value × D := (.string p.1, p.2)
def lookD (z : D) (k : ByteArray) : List (ByteArray × D) → D
  | [] => z
  | (a, d) :: r => if k = a then d else lookD z k r
def fndD (k : ByteArray) : List (ByteArray × D) → Option Nat
  | [] => none
  | (a, _) :: r => if k = a then some 0 else (fndD k r).map (· + 1)
def updD (k : ByteArray) (d : D) : List (ByteArray × D) → List (ByteArray × D)
  | [] => [(k, d)]
  | (a, x) :: r => if k = a then (a, d) :: r else (a, x) :: updD k d r

theorem fndD_none {k : ByteArray} {z d : D} : ∀ {l : List (ByteArray × D)}, fndD k l = none → lookD z k l = z ∧ updD k d l = l ++ [(k, d)]
  | [], _ => ⟨rfl, rfl⟩
  | (a, x) :: r, h => by
    unfold fndD at h
    split at h
    · cases h
    · rename_i hne
      have := fndD_none (z := z) (d := d) (l := r) (by simpa using h)
      exact ⟨by simp only [lookD, if_neg hne]; exact this.1, by simp only [updD, if_neg hne, this.2]; rfl⟩
theorem fndD_some {k : ByteArray} {z d : D} : ∀ {l : List (ByteArray × D)} {i : Nat}, fndD k l = some i → ∃ x, l[i]? = some (k, x) ∧ lookD z k l = x ∧ updD k d l = l.set i (k, d)
  | [], i, h => by cases h
  | (a, x) :: r, i, h => by
    unfold fndD at h
    split at h
    · rename_i he
      cases h
      subst he
      exact ⟨x, rfl, by simp [lookD], by simp [updD]⟩
    · rename_i hne
      obtain ⟨j, hj, rfl⟩ := Option.map_eq_some_iff.1 h
      obtain ⟨y, h1, h2, h3⟩ := fndD_some (z := z) (d := d) hj
      exact ⟨y, by simpa using h1, by simp only [lookD, if_neg hne]; exact h2, by simp only [updD, if_neg hne, h3]; rfl⟩

theorem findNow_str (k : ByteArray) : ∀ (l : List (ByteArray × D)) (es : List MapEntry) (n : Nat), es.length = l.length → (∀ (i : Nat) (me : MapEntry) p, es[i]? = some me → l[i]? = some p → me.key = .string p.1) →
    (fndD k l = none ∧ Instr.findNow .string (.string k) es n = some none) ∨ ∃ i me, fndD k l = some i ∧ es[i]? = some me ∧ Instr.findNow .string (.string k) es n = some (some (n + i, me.val))
  | [], [], n, _, _ => .inl ⟨rfl, rfl⟩
  | (a, d) :: r, e :: es, n, hl, hk => by
    have h0 : e.key = .string a := hk 0 e (a, d) rfl rfl
    by_cases he : k = a
    · refine .inr ⟨0, e, by simp [fndD, he], rfl, ?_⟩
      have : (k == a) = true := (bytes_beq k a).2 he
      simp [Instr.findNow, Instr.sameNow, h0, this]
    · have : (k == a) = false := by
        cases hc : (k == a) with
        | false => rfl
        | true => exact absurd ((bytes_beq k a).1 hc) he
      rcases findNow_str k r es (n + 1) (by simpa using hl) (fun i me p h1 h2 => hk (i + 1) me p (by simpa using h1) (by simpa using h2)) with ⟨h1, h2⟩ | ⟨i, me, h1, h2, h3⟩
      · exact .inl ⟨by simp [fndD, he, h1], by simp [Instr.findNow, Instr.sameNow, h0, this, h2]⟩
      · exact .inr ⟨i + 1, me, by simp [fndD, he, h1], by simpa using h2, by simp [Instr.findNow, Instr.sameNow, h0, this, h3]; omega⟩
  | [], _ :: _, _, hl, _ => by simp at hl
  | _ :: _, [], _, hl, _ => by simp at hl

/-- a map's type, keyed by strings: what its elements are at first -/
def mapT (P : Program) (t : TypeId) : Option D :=
  match P.underlying t with
  | some (.map k e) => match P.underlying k, P.info? e with
    | some .string, some i => match i.zero with
      | some (.bool b) => some (.sc (.bool b))
      | some (.string s) => some (.sc (.string s))
      | some (.int k n) => some (.sc (.int k n))
      | _ => none
    | _, _ => none
  | _ => none

theorem mapT_spec {P : Program} {t : TypeId} {zd : D} (h : mapT P t = some zd) : ∃ k e i z, P.underlying t = some (.map k e) ∧ P.underlying k = some .string ∧ P.info? e = some i ∧ i.zero = some z ∧ ∀ σ, Rep σ z zd := by
  unfold mapT at h
  split at h <;> try cases h
  rename_i k e ht
  split at h <;> try cases h
  rename_i i hk hi
  split at h <;> try cases h
  all_goals (rename_i hz; exact ⟨k, e, i, _, ht, hk, hi, hz, fun σ => Rep.sc rfl⟩)

section
variable {P : Program} {E : Operand → AV} {st : List AO}

theorem op_makeMap (t : TypeId) : OpS P (.makeMap t none) E st (.omap st.length) (st ++ [.mp []]) := by
  intro o ho w0 σ0 σ gh ρ w hb hρ
  have : (execOp ρ o).run P w = .ok (.value (.map (some w.heap.size))) (w.alloc (.map #[] 0)) := by
    simp [execOp, ho, run_makeMap, Result.andThen]
  rw [this]
  have hf := hb.push (w' := w.alloc (.map #[] 0)) (World.grownBy_alloc w _ none) (.map (some w.heap.size)) (.mp []) (fun b h => by
      simp only [blkOf, Option.some.injEq] at h; subst h; simp)
    ⟨w.heap.size, #[], 0, rfl, hb.below.size, (MapKept.heap_alloc w _).1, rfl, fun i k d h => by simp at h, hb.sl.fresh (Nat.le_refl _)⟩
  exact ⟨σ, _, hf, by rw [← hb.len]; simp, _, rfl⟩

theorem op_lookup (t : TypeId) (x i : Operand) (s : Nat) (zd : D) (l : List (ByteArray × D)) (k : ByteArray) (ht : mapT P t = some zd) (hx : E x = .omap s) (hst : st[s]? = some (.mp (l.map strE))) (hi : E i = .str k) :
    OpS P (.lookup t x i false) E st (.d (lookD zd k l)) st := by
  obtain ⟨kt, e, inf, z, h1, h2, h3, h4, h5⟩ := mapT_spec ht
  refine op_pure fun o ho w0 σ0 σ gh ρ w hb hρ => ?_
  have hx' := hρ x (by simp [Op.operands])
  have hi' := hρ i (by simp [Op.operands])
  rw [hx] at hx'
  rw [hi] at hi'
  have hi' := RepA_sc hi'
  obtain ⟨hg, r, hr⟩ := hx'
  obtain ⟨r', entries, clock, e1, e2, e3, e4, e5, e6⟩ := hb.obj s _ _ hst hg
  have hrr : r' = r := by rw [hr] at e1; simpa using e1.symm
  subst hrr
  have hl : entries.toList.length = l.length := by simpa using e4
  have hkeys : ∀ (i : Nat) (me : MapEntry) p, entries.toList[i]? = some me → l[i]? = some p → me.key = .string p.1 := fun i me p hm hp => by
    obtain ⟨me', h6, h7, _⟩ := e5 i (.string p.1) p.2 (by simp [hp, strE])
    rw [show entries.toList[i]? = entries[i]? by simp] at hm
    rw [hm] at h6
    cases h6
    exact h7
  have hzero : (zeroValue e).run P w = .ok z w := by simp [zeroValue, typeInfo, h3, h4]
  rcases findNow_str k l entries.toList 0 hl hkeys with ⟨f1, f2⟩ | ⟨j, me, f1, f2, f3⟩
  · refine ⟨z, ?_, ?_⟩
    · simp [execOp, ho, hr, hi', Instr.lookup, run_underlying h1, Go.MapKept.run_getObj_map e3, Go.MapKept.run_checkKey (d := .string) (k := .string k) h2 trivial, Go.MapKept.run_findKey h2 f2, Result.andThen, hzero]
    · rw [(fndD_none (z := zd) (d := zd) f1).1]; exact h5 σ
  · obtain ⟨y, g1, g2, _⟩ := fndD_some (z := zd) (d := zd) f1
    obtain ⟨me', g3, _, g4⟩ := e5 j (.string k) y (by simp [g1, strE])
    have : me' = me := by
      rw [show entries.toList[j]? = entries[j]? by simp] at f2
      rw [f2] at g3; cases g3; rfl
    subst this
    refine ⟨me'.val, ?_, ?_⟩
    · simp [execOp, ho, hr, hi', Instr.lookup, run_underlying h1, Go.MapKept.run_getObj_map e3, Go.MapKept.run_checkKey (d := .string) (k := .string k) h2 trivial, Go.MapKept.run_findKey h2 f3, Result.andThen]
    · rw [g2]; exact g4

theorem op_mapUpdate (t : TypeId) (x i y : Operand) (s : Nat) (zd d : D) (l : List (ByteArray × D)) (k : ByteArray) (ht : mapT P t = some zd) (hx : E x = .omap s) (hst : st[s]? = some (.mp (l.map strE))) (hi : E i = .str k) (hy : E y = .d d) :
    OpS P (.mapUpdate t x i y) E st .junk (st.set s (.mp ((updD k d l).map strE))) := by
  obtain ⟨kt, e, inf, z, h1, h2, h3, h4, h5⟩ := mapT_spec ht
  intro o ho w0 σ0 σ gh ρ w hb hρ
  have hx' := hρ x (by simp [Op.operands])
  have hi' := hρ i (by simp [Op.operands])
  have hy' := hρ y (by simp [Op.operands])
  rw [hx] at hx'
  rw [hi] at hi'
  rw [hy] at hy'
  have hi' := RepA_sc hi'
  have hy' : Rep σ (ρ y) d := hy'
  obtain ⟨hg, r, hr⟩ := hx'
  obtain ⟨r', entries, clock, e1, e2, e3, e4, e5, e6⟩ := hb.obj s _ _ hst hg
  have hrr : r' = r := by rw [hr] at e1; simpa using e1.symm
  subst hrr
  have hl : entries.toList.length = l.length := by simpa using e4
  have hkeys : ∀ (i : Nat) (me : MapEntry) p, entries.toList[i]? = some me → l[i]? = some p → me.key = .string p.1 := fun i me p hm hp => by
    obtain ⟨me', h6, h7, _⟩ := e5 i (.string p.1) p.2 (by simp [hp, strE])
    rw [show entries.toList[i]? = entries[i]? by simp] at hm
    rw [hm] at h6
    cases h6
    exact h7
  have hrlt : r' < w.heap.size := (Array.getElem?_eq_some_iff.1 e3).1
  have keep : ∀ (o' : AO), (∀ k' e' sz' xs', o' ≠ .row k' e' sz' xs') → ∀ v a, RepA σ gh st v a → RepA σ gh (st.set s o') v a := fun o' hne v a h' => h'.set hst o' (fun k' e' sz' xs' heq => absurd heq (hne _ _ _ _))
  have fin : ∀ (entries' : Array MapEntry) (clock' : Nat) (l' : List (ByteArray × D)), entries'.size = l'.length →
      (∀ (i : Nat) p, l'[i]? = some p → ∃ me : MapEntry, entries'[i]? = some me ∧ me.key = .string p.1 ∧ Rep σ me.val p.2) →
      Fut w0 σ0 σ gh st σ gh (st.set s (.mp (l'.map strE))) { w with heap := w.heap.setIfInBounds r' (.map entries' clock') } := fun entries' clock' l' hs he => by
    have := hb.turn (w' := { w with heap := w.heap.setIfInBounds r' (.map entries' clock') }) hst hg (by simp) ⟨rfl, rfl, rfl, by simp, fun j _ hj => by
        have hne : r' ≠ j := fun hh => hj (by rw [hr]; simp [blkOf, hh])
        simp [hne]⟩ (ρ x) (.mp (l'.map strE)) (fun b hb' => .inl hb')
      ⟨r', entries', clock', hr, e2, by simp [hrlt], by simpa using hs, fun i k d hk => by
        simp only [List.getElem?_map, Option.map_eq_some_iff] at hk
        obtain ⟨p, hp, hpe⟩ := hk
        obtain ⟨me, m1, m2, m3⟩ := he i p hp
        simp only [strE, Prod.mk.injEq] at hpe
        obtain ⟨rfl, rfl⟩ := hpe
        exact ⟨me, m1, m2, m3⟩, e6⟩ (by rw [set_self hg]; exact keep _ (by simp))
    rwa [set_self hg] at this
  have old : ∀ (i : Nat) p, l[i]? = some p → ∃ me : MapEntry, entries[i]? = some me ∧ me.key = .string p.1 ∧ Rep σ me.val p.2 := fun i p hp => e5 i (.string p.1) p.2 (by simp [hp, strE])
  rcases findNow_str k l entries.toList 0 hl hkeys with ⟨f1, f2⟩ | ⟨j, me, f1, f2, f3⟩
  · have hrun : (execOp ρ o).run P w = .ok .skip { w with heap := w.heap.setIfInBounds r' (.map (entries.push { key := .string k, val := ρ y, born := clock }) (clock + 1)) } := by
      simp [execOp, ho, hr, hi', Instr.mapUpdate, run_underlying h1, Go.MapKept.run_getObj_map e3, Go.MapKept.run_checkKey (d := .string) (k := .string k) h2 trivial, Go.MapKept.run_findKey h2 f2, Go.MapKept.run_setObj_map _ e3, Result.andThen]
    rw [hrun]
    refine ⟨rfl, σ, gh, ?_⟩
    rw [(fndD_none (z := zd) (d := d) f1).2]
    refine fin _ _ _ (by simp; simpa using hl) fun i p hp => ?_
    by_cases hlt : i < l.length
    · rw [List.getElem?_append_left hlt] at hp
      obtain ⟨me, m1, m2, m3⟩ := old i p hp
      have : i < entries.size := (Array.getElem?_eq_some_iff.1 m1).1
      exact ⟨me, by rw [Array.getElem?_push, if_neg (by omega)]; exact m1, m2, m3⟩
    · have hi0 : i = l.length := by
        have := (List.getElem?_eq_some_iff.1 hp).1
        simp at this; omega
      subst hi0
      simp at hp
      subst hp
      exact ⟨_, by rw [Array.getElem?_push, if_pos (by simpa using hl.symm)], rfl, hy'⟩
  · obtain ⟨y0, g1, _, g2⟩ := fndD_some (z := zd) (d := d) f1
    have f2' : entries[j]? = some me := by simpa using f2
    have hkey : me.key = .string k := hkeys j me _ f2 g1
    have hsame : Instr.sameBits 10000 (Value.string k) (Value.string k) = true := by
      show (k == k) = true
      exact (bytes_beq k k).2 rfl
    have hrun : (execOp ρ o).run P w = .ok .skip { w with heap := w.heap.setIfInBounds r' (.map (entries.modify j fun e => { e with key := .string k, val := ρ y }) clock) } := by
      simp [execOp, ho, hr, hi', Instr.mapUpdate, run_underlying h1, Go.MapKept.run_getObj_map e3, Go.MapKept.run_checkKey (d := .string) (k := .string k) h2 trivial, Go.MapKept.run_findKey h2 f3, f2', hkey, Instr.keyThatStays, hsame, Go.MapKept.run_setObj_map _ e3, Result.andThen]
    rw [hrun]
    refine ⟨rfl, σ, gh, ?_⟩
    rw [g2]
    refine fin _ _ _ (by simp; simpa using hl) fun i p hp => ?_
    by_cases hij : j = i
    · subst hij
      have hjl : j < l.length := (List.getElem?_eq_some_iff.1 g1).1
      have : p = (k, d) := by simpa [hjl] using hp.symm
      subst this
      exact ⟨_, by rw [Array.getElem?_modify, if_pos rfl, f2']; rfl, rfl, hy'⟩
    · rw [List.getElem?_set, if_neg hij] at hp
      obtain ⟨me', m1, m2, m3⟩ := old i p hp
      exact ⟨me', by rw [Array.getElem?_modify, if_neg hij]; exact m1, m2, m3⟩
end
end Go.Proofs.Nw.K
