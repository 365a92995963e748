/- Bundle 3: NwK23, NwK15, NwK16, NwK17, NwK18, NwK19. -/
import Derived.Test.YtjfpnnmagnljnaaNwA2
import Derived.MapKept
import Derived.Carry
import Derived.Lib.SliceRun
import Derived.ChangeArms
import Derived.WideShapes
section
/- K23: a map of one's own, keyed by strings. -/
open Go Go.RowKit Go.MapKept
set_option linter.unusedVariables false
set_option linter.unusedSimpArgs false
namespace Go.Proofs.Nw.K

def strE (p : ByteArray × D) : Value × D := (.string p.1, p.2)
def lookD (z : D) (k : ByteArray) : List (ByteArray × D) → D
  | [] => z
  | (a, d) :: r => if k = a then d else lookD z k r
def fndD (k : ByteArray) : List (ByteArray × D) → Option Nat
  | [] => none
  | (a, _) :: r => if k = a then some 0 else (fndD k r).map (· + 1)
def updD (k : ByteArray) (d : D) : List (ByteArray × D) → List (ByteArray × D)
  | [] => [(k, d)]
  | (a, x) :: r => if k = a then (a, d) :: r else (a, x) :: updD k d r

theorem fndD_none {k : ByteArray} {z d : D} : ∀ {l : List (ByteArray × D)}, fndD k l = none → lookD z k l = z ∧ updD k d l = l ++ [(k, d)]
  | [], _ => ⟨rfl, rfl⟩
  | (a, x) :: r, h => by
    unfold fndD at h
    split at h
    · cases h
    · rename_i hne
      have := fndD_none (z := z) (d := d) (l := r) (by simpa using h)
      exact ⟨by simp only [lookD, if_neg hne]; exact this.1, by simp only [updD, if_neg hne, this.2]; rfl⟩
theorem fndD_some {k : ByteArray} {z d : D} : ∀ {l : List (ByteArray × D)} {i : Nat}, fndD k l = some i → ∃ x, l[i]? = some (k, x) ∧ lookD z k l = x ∧ updD k d l = l.set i (k, d)
  | [], i, h => by cases h
  | (a, x) :: r, i, h => by
    unfold fndD at h
    split at h
    · rename_i he
      cases h
      subst he
      exact ⟨x, rfl, by simp [lookD], by simp [updD]⟩
    · rename_i hne
      obtain ⟨j, hj, rfl⟩ := Option.map_eq_some_iff.1 h
      obtain ⟨y, h1, h2, h3⟩ := fndD_some (z := z) (d := d) hj
      exact ⟨y, by simpa using h1, by simp only [lookD, if_neg hne]; exact h2, by simp only [updD, if_neg hne, h3]; rfl⟩

theorem findNow_str (k : ByteArray) : ∀ (l : List (ByteArray × D)) (es : List MapEntry) (n : Nat), es.length = l.length → (∀ (i : Nat) (me : MapEntry) p, es[i]? = some me → l[i]? = some p → me.key = .string p.1) →
    (fndD k l = none ∧ Instr.findNow .string (.string k) es n = some none) ∨ ∃ i me, fndD k l = some i ∧ es[i]? = some me ∧ Instr.findNow .string (.string k) es n = some (some (n + i, me.val))
  | [], [], n, _, _ => .inl ⟨rfl, rfl⟩
  | (a, d) :: r, e :: es, n, hl, hk => by
    have h0 : e.key = .string a := hk 0 e (a, d) rfl rfl
    by_cases he : k = a
    · refine .inr ⟨0, e, by simp [fndD, he], rfl, ?_⟩
      have : (k == a) = true := (bytes_beq k a).2 he
      simp [Instr.findNow, Instr.sameNow, h0, this]
    · have : (k == a) = false := by
        cases hc : (k == a) with
        | false => rfl
        | true => exact absurd ((bytes_beq k a).1 hc) he
      rcases findNow_str k r es (n + 1) (by simpa using hl) (fun i me p h1 h2 => hk (i + 1) me p (by simpa using h1) (by simpa using h2)) with ⟨h1, h2⟩ | ⟨i, me, h1, h2, h3⟩
      · exact .inl ⟨by simp [fndD, he, h1], by simp [Instr.findNow, Instr.sameNow, h0, this, h2]⟩
      · exact .inr ⟨i + 1, me, by simp [fndD, he, h1], by simpa using h2, by simp [Instr.findNow, Instr.sameNow, h0, this, h3]; omega⟩
  | [], _ :: _, _, hl, _ => by simp at hl
  | _ :: _, [], _, hl, _ => by simp at hl

/-- a map's type, keyed by strings: what its elements are at first -/
def mapT (P : Program) (t : TypeId) : Option D :=
  match P.underlying t with
  | some (.map k e) => match P.underlying k, P.info? e with
    | some .string, some i => match i.zero with
      | some (.bool b) => some (.sc (.bool b))
      | some (.string s) => some (.sc (.string s))
      | some (.int k n) => some (.sc (.int k n))
      | _ => none
    | _, _ => none
  | _ => none

theorem mapT_spec {P : Program} {t : TypeId} {zd : D} (h : mapT P t = some zd) : ∃ k e i z, P.underlying t = some (.map k e) ∧ P.underlying k = some .string ∧ P.info? e = some i ∧ i.zero = some z ∧ ∀ σ, Rep σ z zd := by
  unfold mapT at h
  split at h <;> try cases h
  rename_i k e ht
  split at h <;> try cases h
  rename_i i hk hi
  split at h <;> try cases h
  all_goals (rename_i hz; exact ⟨k, e, i, _, ht, hk, hi, hz, fun σ => Rep.sc rfl⟩)

section
variable {P : Program} {E : Operand → AV} {st : List AO}

theorem op_makeMap (t : TypeId) : OpS P (.makeMap t none) E st (.omap st.length) (st ++ [.mp []]) := by
  intro o ho w0 σ0 σ gh ρ w hb hρ
  have : (execOp ρ o).run P w = .ok (.value (.map (some w.heap.size))) (w.alloc (.map #[] 0)) := by
    simp [execOp, ho, run_makeMap, Result.andThen]
  rw [this]
  have hf := hb.push (w' := w.alloc (.map #[] 0)) (World.grownBy_alloc w _ none) (.map (some w.heap.size)) (.mp []) (fun b h => by
      simp only [blkOf, Option.some.injEq] at h; subst h; simp)
    ⟨w.heap.size, #[], 0, rfl, hb.below.size, (MapKept.heap_alloc w _).1, rfl, fun i k d h => by simp at h, hb.sl.fresh (Nat.le_refl _)⟩
  exact ⟨σ, _, hf, by rw [← hb.len]; simp, _, rfl⟩

theorem op_lookup (t : TypeId) (x i : Operand) (s : Nat) (zd : D) (l : List (ByteArray × D)) (k : ByteArray) (ht : mapT P t = some zd) (hx : E x = .omap s) (hst : st[s]? = some (.mp (l.map strE))) (hi : E i = .str k) :
    OpS P (.lookup t x i false) E st (.d (lookD zd k l)) st := by
  obtain ⟨kt, e, inf, z, h1, h2, h3, h4, h5⟩ := mapT_spec ht
  refine op_pure fun o ho w0 σ0 σ gh ρ w hb hρ => ?_
  have hx' := hρ x (by simp [Op.operands])
  have hi' := hρ i (by simp [Op.operands])
  rw [hx] at hx'
  rw [hi] at hi'
  have hi' := RepA_sc hi'
  obtain ⟨hg, r, hr⟩ := hx'
  obtain ⟨r', entries, clock, e1, e2, e3, e4, e5, e6⟩ := hb.obj s _ _ hst hg
  have hrr : r' = r := by rw [hr] at e1; simpa using e1.symm
  subst hrr
  have hl : entries.toList.length = l.length := by simpa using e4
  have hkeys : ∀ (i : Nat) (me : MapEntry) p, entries.toList[i]? = some me → l[i]? = some p → me.key = .string p.1 := fun i me p hm hp => by
    obtain ⟨me', h6, h7, _⟩ := e5 i (.string p.1) p.2 (by simp [hp, strE])
    rw [show entries.toList[i]? = entries[i]? by simp] at hm
    rw [hm] at h6
    cases h6
    exact h7
  have hzero : (zeroValue e).run P w = .ok z w := by simp [zeroValue, typeInfo, h3, h4]
  rcases findNow_str k l entries.toList 0 hl hkeys with ⟨f1, f2⟩ | ⟨j, me, f1, f2, f3⟩
  · refine ⟨z, ?_, ?_⟩
    · simp [execOp, ho, hr, hi', Instr.lookup, run_underlying h1, Go.MapKept.run_getObj_map e3, Go.MapKept.run_checkKey (d := .string) (k := .string k) h2 trivial, Go.MapKept.run_findKey h2 f2, Result.andThen, hzero]
    · rw [(fndD_none (z := zd) (d := zd) f1).1]; exact h5 σ
  · obtain ⟨y, g1, g2, _⟩ := fndD_some (z := zd) (d := zd) f1
    obtain ⟨me', g3, _, g4⟩ := e5 j (.string k) y (by simp [g1, strE])
    have : me' = me := by
      rw [show entries.toList[j]? = entries[j]? by simp] at f2
      rw [f2] at g3; cases g3; rfl
    subst this
    refine ⟨me'.val, ?_, ?_⟩
    · simp [execOp, ho, hr, hi', Instr.lookup, run_underlying h1, Go.MapKept.run_getObj_map e3, Go.MapKept.run_checkKey (d := .string) (k := .string k) h2 trivial, Go.MapKept.run_findKey h2 f3, Result.andThen]
    · rw [g2]; exact g4

theorem op_mapUpdate (t : TypeId) (x i y : Operand) (s : Nat) (zd d : D) (l : List (ByteArray × D)) (k : ByteArray) (ht : mapT P t = some zd) (hx : E x = .omap s) (hst : st[s]? = some (.mp (l.map strE))) (hi : E i = .str k) (hy : E y = .d d) :
    OpS P (.mapUpdate t x i y) E st .junk (st.set s (.mp ((updD k d l).map strE))) := by
  obtain ⟨kt, e, inf, z, h1, h2, h3, h4, h5⟩ := mapT_spec ht
  intro o ho w0 σ0 σ gh ρ w hb hρ
  have hx' := hρ x (by simp [Op.operands])
  have hi' := hρ i (by simp [Op.operands])
  have hy' := hρ y (by simp [Op.operands])
  rw [hx] at hx'
  rw [hi] at hi'
  rw [hy] at hy'
  have hi' := RepA_sc hi'
  have hy' : Rep σ (ρ y) d := hy'
  obtain ⟨hg, r, hr⟩ := hx'
  obtain ⟨r', entries, clock, e1, e2, e3, e4, e5, e6⟩ := hb.obj s _ _ hst hg
  have hrr : r' = r := by rw [hr] at e1; simpa using e1.symm
  subst hrr
  have hl : entries.toList.length = l.length := by simpa using e4
  have hkeys : ∀ (i : Nat) (me : MapEntry) p, entries.toList[i]? = some me → l[i]? = some p → me.key = .string p.1 := fun i me p hm hp => by
    obtain ⟨me', h6, h7, _⟩ := e5 i (.string p.1) p.2 (by simp [hp, strE])
    rw [show entries.toList[i]? = entries[i]? by simp] at hm
    rw [hm] at h6
    cases h6
    exact h7
  have hrlt : r' < w.heap.size := (Array.getElem?_eq_some_iff.1 e3).1
  have keep : ∀ (o' : AO), (∀ k' e' sz' xs', o' ≠ .row k' e' sz' xs') → ∀ v a, RepA σ gh st v a → RepA σ gh (st.set s o') v a := fun o' hne v a h' => h'.set hst o' (fun k' e' sz' xs' heq => absurd heq (hne _ _ _ _))
  have fin : ∀ (entries' : Array MapEntry) (clock' : Nat) (l' : List (ByteArray × D)), entries'.size = l'.length →
      (∀ (i : Nat) p, l'[i]? = some p → ∃ me : MapEntry, entries'[i]? = some me ∧ me.key = .string p.1 ∧ Rep σ me.val p.2) →
      Fut w0 σ0 σ gh st σ gh (st.set s (.mp (l'.map strE))) { w with heap := w.heap.setIfInBounds r' (.map entries' clock') } := fun entries' clock' l' hs he => by
    have := hb.turn (w' := { w with heap := w.heap.setIfInBounds r' (.map entries' clock') }) hst hg (by simp) ⟨rfl, rfl, rfl, by simp, fun j _ hj => by
        have hne : r' ≠ j := fun hh => hj (by rw [hr]; simp [blkOf, hh])
        simp [hne]⟩ (ρ x) (.mp (l'.map strE)) (fun b hb' => .inl hb')
      ⟨r', entries', clock', hr, e2, by simp [hrlt], by simpa using hs, fun i k d hk => by
        simp only [List.getElem?_map, Option.map_eq_some_iff] at hk
        obtain ⟨p, hp, hpe⟩ := hk
        obtain ⟨me, m1, m2, m3⟩ := he i p hp
        simp only [strE, Prod.mk.injEq] at hpe
        obtain ⟨rfl, rfl⟩ := hpe
        exact ⟨me, m1, m2, m3⟩, e6⟩ (by rw [set_self hg]; exact keep _ (by simp))
    rwa [set_self hg] at this
  have old : ∀ (i : Nat) p, l[i]? = some p → ∃ me : MapEntry, entries[i]? = some me ∧ me.key = .string p.1 ∧ Rep σ me.val p.2 := fun i p hp => e5 i (.string p.1) p.2 (by simp [hp, strE])
  rcases findNow_str k l entries.toList 0 hl hkeys with ⟨f1, f2⟩ | ⟨j, me, f1, f2, f3⟩
  · have hrun : (execOp ρ o).run P w = .ok .skip { w with heap := w.heap.setIfInBounds r' (.map (entries.push { key := .string k, val := ρ y, born := clock }) (clock + 1)) } := by
      simp [execOp, ho, hr, hi', Instr.mapUpdate, run_underlying h1, Go.MapKept.run_getObj_map e3, Go.MapKept.run_checkKey (d := .string) (k := .string k) h2 trivial, Go.MapKept.run_findKey h2 f2, Go.MapKept.run_setObj_map _ e3, Result.andThen]
    rw [hrun]
    refine ⟨rfl, σ, gh, ?_⟩
    rw [(fndD_none (z := zd) (d := d) f1).2]
    refine fin _ _ _ (by simp; simpa using hl) fun i p hp => ?_
    by_cases hlt : i < l.length
    · rw [List.getElem?_append_left hlt] at hp
      obtain ⟨me, m1, m2, m3⟩ := old i p hp
      have : i < entries.size := (Array.getElem?_eq_some_iff.1 m1).1
      exact ⟨me, by rw [Array.getElem?_push, if_neg (by omega)]; exact m1, m2, m3⟩
    · have hi0 : i = l.length := by
        have := (List.getElem?_eq_some_iff.1 hp).1
        simp at this; omega
      subst hi0
      simp at hp
      subst hp
      exact ⟨_, by rw [Array.getElem?_push, if_pos (by simpa using hl.symm)], rfl, hy'⟩
  · obtain ⟨y0, g1, _, g2⟩ := fndD_some (z := zd) (d := d) f1
    have f2' : entries[j]? = some me := by simpa using f2
    have hkey : me.key = .string k := hkeys j me _ f2 g1
    have hsame : Instr.sameBits 10000 (Value.string k) (Value.string k) = true := by
      show (k == k) = true
      exact (bytes_beq k k).2 rfl
    have hrun : (execOp ρ o).run P w = .ok .skip { w with heap := w.heap.setIfInBounds r' (.map (entries.modify j fun e => { e with key := .string k, val := ρ y }) clock) } := by
      simp [execOp, ho, hr, hi', Instr.mapUpdate, run_underlying h1, Go.MapKept.run_getObj_map e3, Go.MapKept.run_checkKey (d := .string) (k := .string k) h2 trivial, Go.MapKept.run_findKey h2 f3, f2', hkey, Instr.keyThatStays, hsame, Go.MapKept.run_setObj_map _ e3, Result.andThen]
    rw [hrun]
    refine ⟨rfl, σ, gh, ?_⟩
    rw [g2]
    refine fin _ _ _ (by simp; simpa using hl) fun i p hp => ?_
    by_cases hij : j = i
    · subst hij
      have hjl : j < l.length := (List.getElem?_eq_some_iff.1 g1).1
      have : p = (k, d) := by simpa [hjl] using hp.symm
      subst this
      exact ⟨_, by rw [Array.getElem?_modify, if_pos rfl, f2']; rfl, rfl, hy'⟩
    · rw [List.getElem?_set, if_neg hij] at hp
      obtain ⟨me', m1, m2, m3⟩ := old i p hp
      exact ⟨me', by rw [Array.getElem?_modify, if_neg hij]; exact m1, m2, m3⟩
end
end Go.Proofs.Nw.K
end
section
/- K15: what is to be shown of code, computed: 'vc'. -/
open Go Go.RowKit
set_option linter.unusedVariables false
set_option linter.unusedSimpArgs false
namespace Go.Proofs.Nw.K

/-- one datum may stand for another -/
def DLe (d d' : DV) : Prop := ∀ σ v, RepV σ v d → RepV σ v d'
theorem DLe.refl (d : DV) : DLe d d := fun _ _ h => h
theorem DLe.tl {α : Type} {sz : Nat} {enc : α → List D} (z : α) {xs : List α} {ys : List (List D)} (e : ys = xs.map enc) : DLe (.one (.list sz ys)) (.one (.tl α sz enc z xs)) :=
  fun σ v h => by subst e; exact Rep.tl h
theorem DLe.nils {α : Type} {sz : Nat} {enc : α → List D} (z : α) : DLe (.one .nils) (.one (.tl α sz enc z [])) :=
  fun σ v h => by
    have h : Rep σ v .nils := h
    cases h
    exact Rep.tl (Rep.nil (by simp [maxLen]))
theorem DLe.nilsl {sz : Nat} : DLe (.one .nils) (.one (.list sz [])) :=
  fun σ v h => by
    have h : Rep σ v .nils := h
    cases h
    exact Rep.nil (by simp [maxLen])
theorem DLe.of_eq {d d' : DV} (e : d = d') : DLe d d' := e ▸ DLe.refl d
/-- a struct, cell by cell -/
def CLe : List D → List D → Prop
  | [], [] => True
  | d :: r, d' :: r' => DLe (.one d) (.one d') ∧ CLe r r'
  | _, _ => False
theorem CLe.rep {σ : Sig} : ∀ {ds ds' : List D} {vs : List Value}, CLe ds ds' → RepL σ vs ds → RepL σ vs ds'
  | [], [], vs, _, h => h
  | d :: r, d' :: r', vs, hc, h => by
    cases vs with
    | nil => have := h.1; simp at this
    | cons v vs =>
      have ih := CLe.rep (vs := vs) hc.2 ⟨by have := h.1; simpa using this, fun i u e hu he => h.2 (i + 1) u e (by simpa using hu) (by simpa using he)⟩
      refine ⟨by have := ih.1; simp [this], fun i u e hu he => ?_⟩
      cases i with
      | zero => simp at hu he; subst hu he; exact hc.1 σ _ (h.2 0 _ d rfl rfl)
      | succ i => simp at hu he; exact ih.2 i u e hu he
  | [], _ :: _, _, hc, _ => hc.elim
  | _ :: _, [], _, hc, _ => hc.elim
theorem DLe.agg {ds ds' : List D} (h : CLe ds ds') : DLe (.agg ds) (.agg ds') := fun σ v hv => by
  obtain ⟨vs, e, hr⟩ := hv
  exact ⟨vs, e, h.rep hr⟩

/-- rows, one by one -/
def LsLe : List (List D) → List (List D) → Prop
  | [], [] => True
  | x :: r, y :: r' => CLe x y ∧ LsLe r r'
  | _, _ => False
theorem CLe.length : ∀ {ds ds' : List D}, CLe ds ds' → ds.length = ds'.length
  | [], [], _ => rfl
  | _ :: r, _ :: r', h => by simp [CLe.length h.2]
  | [], _ :: _, h => h.elim
  | _ :: _, [], h => h.elim
theorem CLe.get : ∀ {ds ds' : List D} {j : Nat} {d' : D}, CLe ds ds' → ds'[j]? = some d' → ∃ d, ds[j]? = some d ∧ DLe (.one d) (.one d')
  | d :: r, d' :: r', 0, e, h, hd => by simp at hd; subst hd; exact ⟨d, rfl, h.1⟩
  | d :: r, d' :: r', j + 1, e, h, hd => by
    obtain ⟨x, h1, h2⟩ := CLe.get (j := j) h.2 (by simpa using hd)
    exact ⟨x, by simpa using h1, h2⟩
  | [], [], _, _, _, hd => by simp at hd
  | [], _ :: _, _, _, h, _ => h.elim
  | _ :: _, [], _, _, h, _ => h.elim
theorem CLe.refl : ∀ ds : List D, CLe ds ds
  | [] => trivial
  | d :: r => ⟨DLe.refl _, CLe.refl r⟩
theorem LsLe.length : ∀ {a b : List (List D)}, LsLe a b → a.length = b.length
  | [], [], _ => rfl
  | _ :: r, _ :: r', h => by simp [LsLe.length h.2]
  | [], _ :: _, h => h.elim
  | _ :: _, [], h => h.elim
theorem LsLe.get : ∀ {a b : List (List D)} {i : Nat} {y : List D}, LsLe a b → b[i]? = some y → ∃ x, a[i]? = some x ∧ CLe x y
  | x :: r, y :: r', 0, e, h, hd => by simp at hd; subst hd; exact ⟨x, rfl, h.1⟩
  | x :: r, y :: r', j + 1, e, h, hd => by
    obtain ⟨z, h1, h2⟩ := LsLe.get (i := j) h.2 (by simpa using hd)
    exact ⟨z, by simpa using h1, h2⟩
  | [], [], _, _, _, hd => by simp at hd
  | [], _ :: _, _, _, h, _ => h.elim
  | _ :: _, [], _, _, h, _ => h.elim
theorem LsLe.refl : ∀ a : List (List D), LsLe a a
  | [] => trivial
  | x :: r => ⟨CLe.refl x, LsLe.refl r⟩
theorem LsLe.app : ∀ {a b c d : List (List D)}, LsLe a b → LsLe c d → LsLe (a ++ c) (b ++ d)
  | [], [], _, _, _, k => k
  | _ :: _, _ :: _, _, _, h, k => ⟨h.1, LsLe.app h.2 k⟩
  | [], _ :: _, _, _, h, _ => h.elim
  | _ :: _, [], _, _, h, _ => h.elim
theorem DLe.rows {sz : Nat} {a b : List (List D)} (h : LsLe a b) : DLe (.one (.list sz a)) (.one (.list sz b)) := fun σ v hv => by
  have hv : Rep σ v (.list sz a) := hv
  show Rep σ v (.list sz b)
  have hl := h.length
  cases hv with
  | nil hm =>
    cases b with
    | nil => exact .nil hm
    | cons _ _ => simp at hl
  | list val hn h0 hc hm hsz hcell hval =>
    refine .list val (by rw [hn, hl]) h0 hc hm (fun i y hy => ?_) hcell (fun i j y d hy hd => ?_)
    · obtain ⟨x, hx, hc⟩ := h.get hy
      rw [← hc.length]; exact hsz i x hx
    · obtain ⟨x, hx, hc⟩ := h.get hy
      obtain ⟨d0, hd0, hle⟩ := hc.get hd
      exact hle σ _ (hval i j x d0 hx hd0)
theorem DLe.trans {a b c : DV} (h : DLe a b) (k : DLe b c) : DLe a c := fun σ v hv => k σ v (h σ v hv)
theorem DLe.tlr {α : Type} {sz : Nat} {enc : α → List D} (z : α) {xs : List α} {ys : List (List D)} (h : LsLe ys (xs.map enc)) : DLe (.one (.list sz ys)) (.one (.tl α sz enc z xs)) :=
  (DLe.rows h).trans (DLe.tl z rfl)

def AsLe : List DV → List DV → Prop
  | [], [] => True
  | d :: r, d' :: r' => DLe d d' ∧ AsLe r r'
  | _, _ => False
theorem AsLe.rep {σ : Sig} : ∀ {ds ds' : List DV} {vs : List Value}, AsLe ds ds' → RepVs σ vs ds → RepVs σ vs ds'
  | [], [], vs, _, h => h
  | d :: r, d' :: r', vs, hc, h => by
    cases vs with
    | nil => have := h.1; simp at this
    | cons v vs =>
      have ih := AsLe.rep (vs := vs) hc.2 ⟨by have := h.1; simpa using this, fun i u e hu he => h.2 (i + 1) u e (by simpa using hu) (by simpa using he)⟩
      refine ⟨by have := ih.1; simp [this], fun i u e hu he => ?_⟩
      cases i with
      | zero => simp at hu he; subst hu he; exact hc.1 σ _ (h.2 0 _ d rfl rfl)
      | succ i => simp at hu he; exact ih.2 i u e hu he
  | [], _ :: _, _, hc, _ => hc.elim
  | _ :: _, [], _, hc, _ => hc.elim
theorem AsLe.refl : ∀ ds, AsLe ds ds
  | [] => trivial
  | d :: r => ⟨DLe.refl d, AsLe.refl r⟩

theorem AsLe.res {σ : Sig} {ds ds' : List DV} {u : Value} (h : AsLe ds ds') (hr : RepRes σ u ds) : RepRes σ u ds' := by
  match ds, ds', h with
  | [], [], _ => exact hr
  | [d], [d'], h => exact h.1 σ u hr
  | d :: e :: r, d' :: e' :: r', h =>
    obtain ⟨us, h1, h2⟩ := hr
    exact ⟨us, h1, h.rep h2⟩
  | [d], d' :: e' :: r', h => exact h.2.elim
  | d :: e :: r, [d'], h => exact h.2.elim

theorem Impl.le {P : Program} {f : FuncId} {ds ds' res : List DV} (h : Impl P f ds' res) (hl : AsLe ds ds') : Impl P f ds res :=
  fun w σ vs hs hv => h w σ vs hs (hl.rep hv)
theorem Impl.res {P : Program} {f : FuncId} {ds res res' : List DV} (h : Impl P f ds res) (hl : AsLe res res') : Impl P f ds res' :=
  fun w σ vs hs hv => (h w σ vs hs hv).mono fun e w' ⟨u, σ', h1, h2, h3, h4, h5⟩ => ⟨u, σ', h1, h2, h3, h4, hl.res h5⟩

/-! ### the tables, looked up -/
inductive TK where
  | int (k : IntKind) | str | bool | slice (e : Nat) | other

structure Tab where
  ld : Nat → Option (Nat × Bool)
  fo : Nat → Nat → Option Nat
  el : Nat → Option (Nat × Nat)
  ap : Nat → Option (Nat × Nat × Nat)
  kd : Nat → TK
  zb : Nat → Option (List AV)
  zd : Nat → Option (List D)
  bt : Nat → Option (List (Nat × Nat))
  ss : Nat → Option Nat
  cl : Nat → Bool
  bb : Nat → Option Nat
  cv : Nat → Nat → Option (Nat × Nat)
  ei : Nat → Bool
  pt : Nat → Bool

structure TabOk (P : Program) (T : Tab) : Prop where
  ld : ∀ t x, T.ld t = some x → ldT P t = some x
  fo : ∀ t f x, T.fo t f = some x → fieldOff P t f = some x
  el : ∀ t x, T.el t = some x → elT P t = some x
  ap : ∀ t x, T.ap t = some x → appT P t = some x
  kint : ∀ t k, T.kd t = .int k → P.underlying t = some (.int k)
  kstr : ∀ t, T.kd t = .str → P.underlying t = some .string
  kbool : ∀ t, T.kd t = .bool → P.underlying t = some .bool
  kslice : ∀ t e, T.kd t = .slice e → P.underlying t = some (.slice e)
  zb : ∀ t x, T.zb t = some x → zeroOf P t = some x
  zd : ∀ t x, T.zd t = some x → zeroD P t = some x
  bt : ∀ t x, T.bt t = some x → buildT P t = some x
  ss : ∀ t x, T.ss t = some x → strStruct P t = some x
  cl : ∀ f, T.cl f = true → callable P f = true
  bb : ∀ t e, T.bb t = some e → byteT P t = some e
  cv : ∀ s d b n, T.cv s d = some (b, n) → CvOk P s d b n
  ei : ∀ f, T.ei f = true → IdFn P f
  pt : ∀ t, T.pt t = true → ptrT P t = true
  mixed : P.follows .mixedOrders = true

def byteAt (s : ByteArray) (n : Nat) : Int := bt s n

abbrev KO := AV → List AO → Prop

/-- the value itself, not the way to it -/
def force (a : AV) (K : AV → Prop) : Prop :=
  match a with
  | .v (.one (.sc (.bool b))) => K (.v (.one (.sc (.bool b))))
  | .v (.one (.sc v)) => K (.v (.one (.sc v)))
  | .v (.one d) => K (.v (.one d))
  | .v (.agg cs) => K (.v (.agg cs))
  | .ptr s off => K (.ptr s off)
  | .h s k lo n => K (.h s k lo n)
  | .ep s k i off => K (.ep s k i off)
  | .omap s => K (.omap s)
  | .tup vs => K (.tup vs)
  | .clo f caps => K (.clo f caps)
  | .junk => K .junk
theorem force_out {a : AV} {K : AV → Prop} (h : force a K) : K a := by
  unfold force at h
  split at h <;> exact h

section
variable (P : Program) (T : Tab) (N : Fm)

/-- arithmetic on an int: within its range -/
def vcArith (k : IntKind) (r : Int) (st : List AO) (K : KO) : Prop :=
  match k with
  | .i64 => (-9223372036854775808 ≤ r ∧ r ≤ 9223372036854775807) ∧ K (.int r) st
  | k => K (.sc (.int k (k.wrap r))) st

def vcBin (op : BinOp) (t : Nat) (x y : AV) (st : List AO) (K : KO) : Prop :=
  match op, x, y with
  | .add, .v (.one (.sc (.int k a))), .v (.one (.sc (.int k' b))) => k' = k ∧ vcArith k (a + b) st K
  | .sub, .v (.one (.sc (.int k a))), .v (.one (.sc (.int k' b))) => k' = k ∧ vcArith k (a - b) st K
  | .mul, .v (.one (.sc (.int k a))), .v (.one (.sc (.int k' b))) => k' = k ∧ vcArith k (a * b) st K
  | .quo, .v (.one (.sc (.int k a))), .v (.one (.sc (.int k' b))) => k' = k ∧ b ≠ 0 ∧ vcArith k (a.tdiv b) st K
  | .rem, .v (.one (.sc (.int k a))), .v (.one (.sc (.int k' b))) => k' = k ∧ b ≠ 0 ∧ K (.sc (.int k (a.tmod b))) st
  | .eql, .v (.one (.sc (.int k a))), .v (.one (.sc (.int k' b))) => k' = k ∧ K (.bool (a == b)) st
  | .neq, .v (.one (.sc (.int k a))), .v (.one (.sc (.int k' b))) => k' = k ∧ K (.bool (a != b)) st
  | .lss, .v (.one (.sc (.int k a))), .v (.one (.sc (.int k' b))) => k' = k ∧ K (.bool (decide (a < b))) st
  | .leq, .v (.one (.sc (.int k a))), .v (.one (.sc (.int k' b))) => k' = k ∧ K (.bool (decide (a ≤ b))) st
  | .gtr, .v (.one (.sc (.int k a))), .v (.one (.sc (.int k' b))) => k' = k ∧ K (.bool (decide (a > b))) st
  | .geq, .v (.one (.sc (.int k a))), .v (.one (.sc (.int k' b))) => k' = k ∧ K (.bool (decide (a ≥ b))) st
  | .add, .v (.one (.sc (.string a))), .v (.one (.sc (.string b))) => a.size + b.size ≤ 9223372036854775807 ∧ K (.str (a ++ b)) st
  | .eql, .v (.one (.sc (.string a))), .v (.one (.sc (.string b))) => K (.bool (a.toList == b.toList)) st
  | .neq, .v (.one (.sc (.string a))), .v (.one (.sc (.string b))) => K (.bool (!(a.toList == b.toList))) st
  | .lss, .v (.one (.sc (.string a))), .v (.one (.sc (.string b))) => K (.bool (Op.bytesLess a.toList b.toList)) st
  | .leq, .v (.one (.sc (.string a))), .v (.one (.sc (.string b))) => K (.bool (Op.bytesLess a.toList b.toList || a.toList == b.toList)) st
  | .gtr, .v (.one (.sc (.string a))), .v (.one (.sc (.string b))) => K (.bool (!(Op.bytesLess a.toList b.toList || a.toList == b.toList))) st
  | .eql, .v (.one (.sc (.bool a))), .v (.one (.sc (.bool b))) => T.kd t = .bool ∧ K (.bool (a == b)) st
  | .eql, .ptr _ _, .v (.one (.sc (.pointer none))) => T.pt t = true ∧ K (.bool false) st
  | .eql, .v (.one (.sc (.pointer none))), .v (.one (.sc (.pointer none))) => T.pt t = true ∧ K (.bool true) st
  | .neq, .ptr s off, .ptr s' off' => (s' = s ∧ off' = off) ∧ T.pt t = true ∧ K (.bool false) st
  | .eql, .v (.agg cs), .v (.agg ds) => match T.ss t, strsOf cs, strsOf ds with
    | some n, some a, some b => a.length = n ∧ b.length = n ∧ K (.bool (eqStrs a b)) st
    | _, _, _ => False
  | .neq, .v (.agg cs), .v (.agg ds) => match T.ss t, strsOf cs, strsOf ds with
    | some n, some a, some b => a.length = n ∧ b.length = n ∧ K (.bool (!eqStrs a b)) st
    | _, _, _ => False
  | _, _, _ => False

def vcLoad (t : Nat) (x : AV) (st : List AO) (K : KO) : Prop :=
  match T.ld t, x with
  | some (n, true), .v (.one (.ref cells)) => n ≤ cells.length ∧ K (.agg (cells.take n)) st
  | some (_, false), .v (.one (.ref cells)) => match cells[0]? with
    | some d => K (.d d) st
    | none => False
  | some (n, true), .ptr s off => match st[s]? with
    | some (.box bT cells) => match toDs ((cells.drop off).take n) with
      | some ds => ds.length = n ∧ K (.agg ds) st
      | none => False
    | _ => False
  | some (_, false), .ptr s off => match st[s]? with
    | some (.box bT cells) => match cells[off]? with
      | some a => K a st
      | none => False
    | _ => False
  | some (n, true), .ep s v i off => match st[s]? with
    | some (.row v' e sz xs) => v = v' ∧ ∃ cells, xs[i]? = some cells ∧ off + n ≤ cells.length ∧ K (.agg ((cells.drop off).take n)) st
    | _ => False
  | some (_, false), .ep s v i off => match st[s]? with
    | some (.row v' e sz xs) => v = v' ∧ ∃ cells d, xs[i]? = some cells ∧ cells[off]? = some d ∧ K (.d d) st
    | _ => False
  | _, _ => False

def vcStore (t : Nat) (x y : AV) (st : List AO) (K : KO) : Prop :=
  match T.ld t, x, y with
  | some (n, true), .ptr s off, .v (.agg ds) => match st[s]? with
    | some (.box bT cells) => ds.length = n ∧ off + n ≤ cells.length ∧ K .junk (st.set s (.box bT (cells.take off ++ ds.map AV.d ++ cells.drop (off + n))))
    | _ => False
  | some (1, false), .ptr s off, a => match st[s]? with
    | some (.box bT cells) => okSingle st a ∧ off < cells.length ∧ K .junk (st.set s (.box bT (cells.take off ++ [a] ++ cells.drop (off + 1))))
    | _ => False
  | _, _, _ => False

/-- a store; a row of one's own may be given out with it -/
def vcStoreG (t : Nat) (x y : AV) (st : List AO) (K : KO) : Prop :=
  match y with
  | .h s k lo n => vcStore T t x (.h s k lo n) st K ∨ (match st[s]? with
    | some (.row k' e sz xs) => (k = k' ∧ lo = 0 ∧ n = xs.length) ∧ vcStore T t x (.list sz xs) (st.set s .gone) K
    | _ => False)
  | y => vcStore T t x y st K

def vcIndexAddr (t : Nat) (x i : AV) (st : List AO) (K : KO) : Prop :=
  match T.el t, x, i with
  | some (e, sz), .v (.one (.tl α sz' enc z xs)), .v (.one (.sc (.int _ n))) => sz' = sz ∧ 0 ≤ n ∧ n < xs.length ∧ K (.d (.ref (enc (xs.getD n.toNat z)))) st
  | some (e, sz), .v (.one (.list sz' xs)), .v (.one (.sc (.int _ n))) => sz' = sz ∧ 0 ≤ n ∧ ∃ cells, xs[n.toNat]? = some cells ∧ K (.d (.ref cells)) st
  | some (e, sz), .h s v lo m, .v (.one (.sc (.int _ n))) => match st[s]? with
    | some (.row v' e' sz' xs) => sz' = sz ∧ v = v' ∧ 0 ≤ n ∧ n < m ∧ K (.ep s v (lo + n.toNat) 0) st
    | _ => False
  | _, _, _ => False

def vcLo (E : Operand → AV) (o : Option Operand) (K : Nat → Prop) : Prop :=
  match o with
  | none => K 0
  | some x => match E x with
    | .v (.one (.sc (.int .i64 n))) => 0 ≤ n ∧ K n.toNat
    | _ => False
def vcHi (E : Operand → AV) (len : Nat) (o : Option Operand) (K : Nat → Prop) : Prop :=
  match o with
  | none => K len
  | some x => match E x with
    | .v (.one (.sc (.int .i64 n))) => 0 ≤ n ∧ K n.toNat
    | _ => False

def vcSlice (t : Nat) (x : AV) (lo hi : Option Operand) (E : Operand → AV) (st : List AO) (K : KO) : Prop :=
  match x with
  | .v (.one (.sc (.string s))) => T.kd t = .str ∧ vcLo E lo fun l => vcHi E s.size hi fun h => l ≤ h ∧ h ≤ s.size ∧ K (.str (s.extract l h)) st
  | .v (.one (.tl α sz enc z xs)) => match T.el t with
    | some (e, sz') => sz = sz' ∧ vcLo E lo fun l => vcHi E xs.length hi fun h => l ≤ h ∧ h ≤ xs.length ∧ K (.d (.tl α sz enc z ((xs.take h).drop l))) st
    | none => False
  | .v (.one (.list sz xs)) => match T.el t with
    | some (e, sz') => sz = sz' ∧ vcLo E lo fun l => vcHi E xs.length hi fun h => l ≤ h ∧ h ≤ xs.length ∧ K (.list sz ((xs.take h).drop l)) st
    | none => False
  | .h s k off n => match T.el t, st[s]? with
    | some (e, sz'), some (.row k' e' sz xs) => sz = sz' ∧ k = k' ∧ vcLo E lo fun l => vcHi E n hi fun h => l ≤ h ∧ h ≤ n ∧ K (.h s k (off + l) (h - l)) st
    | _, _ => False
  | _ => False

def srcRows (st : List AO) (sz : Nat) (a : AV) (K : List (List D) → Prop) : Prop :=
  match a with
  | .v (.one (.list sz' ys)) => sz' = sz ∧ K ys
  | .v (.one (.tl α sz' enc z ys)) => sz' = sz ∧ K (ys.map enc)
  | .v (.one .nils) => K []
  | .h s k lo n => match st[s]? with
    | some (.row k' e sz' xs) => sz' = sz ∧ k = k' ∧ K ((xs.drop lo).take n)
    | _ => False
  | _ => False

def vcAppend (t : Nat) (x y : AV) (st : List AO) (K : KO) : Prop :=
  match T.ap t, x with
  | some (e, sz, by_), .v (.one .nils) => srcRows st sz y fun ys => ys.length * by_ ≤ 140737488355328 ∧ ys.length ≤ maxLen ∧ K (.h st.length 0 0 ys.length) (st ++ [.row 0 e sz ys])
  | some (e, sz, by_), .v (.one (.full sz' xs)) => sz' = sz ∧ xs ≠ [] ∧ srcRows st sz y fun ys => ys ≠ [] ∧ (xs.length + ys.length) * by_ ≤ 140737488355328 ∧ xs.length + ys.length ≤ maxLen ∧ K (.h st.length 0 0 (xs.length + ys.length)) (st ++ [.row 0 e sz (xs ++ ys)])
  | some (e, sz, by_), .h s k lo n => match st[s]? with
    | some (.row k' e' sz' xs) => (k = k' ∧ e' = e ∧ sz' = sz ∧ lo = 0) ∧ srcRows st sz y fun ys => (n + ys.length) * by_ ≤ 140737488355328 ∧ n + ys.length ≤ maxLen ∧ K (.h s (k + 1) 0 (n + ys.length)) (st.set s (.row (k + 1) e sz (xs.take n ++ ys)))
    | _ => False
  | _, _ => False

def vcAppendS (t : Nat) (x : AV) (s : ByteArray) (st : List AO) (K : KO) : Prop :=
  match T.bb t, x with
  | some e, .v (.one .nils) => s.size ≤ 140737488351232 ∧ K (.h st.length 0 0 (strRows s).length) (st ++ [.row 0 e 1 (strRows s)])
  | some e, .h r k lo n => match st[r]? with
    | some (.row k' e' sz xs) => (k = k' ∧ e' = e ∧ sz = 1 ∧ lo = 0) ∧ n + s.size ≤ 140737488351232 ∧ K (.h r (k + 1) 0 (n + (strRows s).length)) (st.set r (.row (k + 1) e 1 (xs.take n ++ strRows s)))
    | _ => False
  | _, _ => False

def vcLen (t : Nat) (x : AV) (st : List AO) (K : KO) : Prop :=
  match T.kd t, x with
  | .slice _, .v (.one (.list _ xs)) => K (.int xs.length) st
  | .slice _, .v (.one (.tl _ _ _ _ xs)) => K (.int xs.length) st
  | .slice _, .v (.one .nils) => K (.int 0) st
  | .slice _, .h s k _ n => match st[s]? with
    | some (.row k' _ _ _) => k = k' ∧ K (.int n) st
    | _ => False
  | .str, .v (.one (.sc (.string s))) => K (.int s.size) st
  | _, _ => False

/-- rows of one's own among the arguments are given out -/
def sealK (st : List AO) : List AV → (List AO → List DV → Prop) → Prop
  | [], K => K st []
  | .v d :: r, K => sealK st r fun st' ds => K st' (d :: ds)
  | .h s k lo n :: r, K => match st[s]? with
    | some (.row k' e sz xs) => (k = k' ∧ lo = 0 ∧ n = xs.length) ∧ sealK (st.set s .gone) r fun st' ds => K st' (.one (.list sz xs) :: ds)
    | _ => False
  | _, _ => False

def scDV : DV → Bool
  | .one (.sc _) => true
  | _ => false

def vcCall (f : AV) (args : List AV) (st : List AO) (K : KO) : Prop :=
  match f with
  | .v (.one (.sc (.func (.func f) ⟨[]⟩ ⟨[]⟩))) => match T.ei f with
    | true => (match args with
      | [a] => K a st
      | _ => False)
    | false => T.cl f = true ∧ (match argsDV args with
    | some ds => ∃ ds' res, Impl P f ds' res ∧ AsLe ds ds' ∧ K (resAV res) st
    | none => (∃ res st', Eff P f args st res st' ∧ K (resAV res) st') ∨ (sealK st args fun st' ds => ∃ ds' res, Impl P f ds' res ∧ AsLe ds ds' ∧ K (resAV res) st') ∨
      (sealK st args fun _ ds => ∃ ds' res, Impl P f ds' res ∧ AsLe ds ds' ∧ res.all scDV = true ∧ K (resAV res) st))
  | _ => False

def vcConv (s d : Nat) (x : AV) (st : List AO) (K : KO) : Prop :=
  match T.kd s, T.kd d, x with
  | .other, .other, .ptr i 0 => match st[i]?, T.cv s d with
    | some (.box bT cells), some (b, n) => (b = bT ∧ n = cells.length) ∧ K (.ptr i 0) st
    | _, _ => False
  | .int k', .int k, .v (.one (.sc (.int k2 n))) => k2 = k' ∧ K (.sc (.int k (k.wrap n))) st
  | .slice e, .str, a => T.kd e = .int .u8 ∧ srcRows st 1 a fun ys => ∃ ns : List Int, ys = ns.map byteRow ∧ K (.str ⟨(ns.map fun n => UInt8.ofNat n.toNat).toArray⟩) st
  | _, _, _ => False

def vcOp (op : Op) (E : Operand → AV) (st : List AO) (K : KO) : Prop :=
  match op with
  | .move x => force (E x) fun v => K v st
  | .assign x => force (E x) fun v => K v st
  | .pick c a b => match E c with
    | .v (.one (.sc (.bool b'))) => (b' = true → force (E a) fun v => K v st) ∧ (b' = false → force (E b) fun v => K v st)
    | _ => False
  | .binOp op t x y _ => vcBin T op t (E x) (E y) st K
  | .unOp .not _ x => match E x with
    | .v (.one (.sc (.bool b))) => K (.bool (!b)) st
    | _ => False
  | .convert s d x => vcConv T s d (E x) st K
  | .alloc t => match T.zb t with
    | some cells => K (.ptr st.length 0) (st ++ [.box t cells])
    | none => False
  | .box t x => match E x with
    | .v (.agg ds) => K (.ptr st.length 0) (st ++ [.box t (ds.map AV.d)])
    | a => okSingle st a ∧ K (.ptr st.length 0) (st ++ [.box t [a]])
  | .build t parts => match T.zd t, T.bt t with
    | some zs, some ps => match fillD (ps[·]?) zs (parts.toList.map fun p => (p.1, E p.2)) with
      | some ds => K (.agg ds) st
      | none => False
    | _, _ => False
  | .buildSlice t 0 ⟨[]⟩ => match T.el t with
    | some (e, sz) => K (.h st.length 0 0 0) (st ++ [.row 0 e sz []])
    | none => False
  | .buildSlice t len parts => match T.el t with
    | some (e, sz) => match T.zd e with
      | some zs => match fillD (fun i => some (i * sz, sz)) ((List.range (len * sz)).map fun i => zs.getD (i % sz) .nils) (parts.toList.map fun p => (p.1, E p.2)) with
        | some ds => zs.length = sz ∧ 0 < len * sz ∧ len * sz ≤ 16777216 ∧ ds.length = len * sz ∧ (K (.list sz (chunk sz ds len)) st ∨ K (.d (.full sz (chunk sz ds len))) st)
        | none => False
      | none => False
    | none => False
  | .load t a => vcLoad T t (E a) st K
  | .store t a x => vcStoreG T t (E a) (E x) st K
  | .fieldAddr s x f => match T.fo s f, E x with
    | some k, .ptr i off => K (.ptr i (off + k)) st
    | some k, .v (.one (.ref cells)) => K (.d (.ref (cells.drop k))) st
    | some k, .ep i v j off => match st[i]? with
      | some (.row v' _ _ _) => v = v' ∧ K (.ep i v j (off + k)) st
      | _ => False
    | _, _ => False
  | .indexAddr t x i => vcIndexAddr T t (E x) (E i) st K
  | .index t x i => match E x, E i with
    | .v (.one (.sc (.string s))), .v (.one (.sc (.int _ n))) => T.kd t = .str ∧ 0 ≤ n ∧ n < s.size ∧ K (.byte (byteAt s n.toNat)) st
    | _, _ => False
  | .slice t x lo hi none => vcSlice T t (E x) lo hi E st K
  | .extract x i => match E x with
    | .tup vs => match vs[i]? with
      | some d => K (.v d) st
      | none => False
    | _ => False
  | .makeFunc (.func f) ⟨[]⟩ ⟨[]⟩ => K (fnAV f) st
  | .call { callee := .value x, args := args, .. } => vcCall P T (E x) (args.toList.map E) st K
  | .call { callee := .builtin .len, args := ⟨[x]⟩, argTypes := ⟨[t]⟩ } => vcLen T t (E x) st K
  | .call { callee := .builtin .append, args := ⟨[x, y]⟩, argTypes := ⟨[t, t']⟩ } => match E y with
    | .v (.one (.sc (.string s))) => T.kd t' = .str ∧ vcAppendS T t (E x) s st K
    | y => t' = t ∧ vcAppend T t (E x) y st K
  | .nilCheck x => match E x with
    | .ptr s off => K (.ptr s off) st
    | .v (.one (.ref cells)) => K (.d (.ref cells)) st
    | _ => False
  | .makeMap t none => K (.omap st.length) (st ++ [.mp []])
  | .lookup t x i false => match E x, E i with
    | .omap s, .v (.one (.sc (.string k))) => match st[s]? with
      | some (.mp es) => ∃ zd l d, mapT P t = some zd ∧ es = l.map strE ∧ lookD zd k l = d ∧ K (.d d) st
      | _ => False
    | _, _ => False
  | .mapUpdate t x i y => match E x, E i, E y with
    | .omap s, .v (.one (.sc (.string k))), .v (.one d) => match st[s]? with
      | some (.mp es) => ∃ zd l, mapT P t = some zd ∧ es = l.map strE ∧ K .junk (st.set s (.mp ((updD k d l).map strE)))
      | _ => False
    | _, _, _ => False
  | _ => False

/-- .. or one of which one of two things comes: whether a list is nil -/
def vcOp2 (op : Op) (E : Operand → AV) (st : List AO) (K : KO) : Prop :=
  match op with
  | .binOp .eql t x (.const (.slice none 0 0)) _ => match T.kd t, E x with
    | .slice _, .v (.one (.tl _ _ _ _ xs)) => (xs = [] → K (.bool true) st) ∧ K (.bool false) st
    | .slice _, .v (.one (.list _ xs)) => (xs = [] → K (.bool true) st) ∧ K (.bool false) st
    | .slice _, .v (.one .nils) => K (.bool true) st
    | _, _ => False
  | op => vcOp P T op E st K

/-- operations in their order -/
def vcL (ops : List Oper) : List Oper → Env → List AO → (Env → List AO → Prop) → Prop
  | [], env, st, K => K env st
  | o :: rest, env, st, K => match o.guard with
    | none => vcOp2 P T o.op (evalE env) st fun v st' => vcL ops rest (updO env o.dst v) st' K
    | some (j, want) => match ops[j]? with
      | some oj => match oj.dst with
        | some d => match env d with
          | .v (.one (.sc (.bool b))) => d < N.n ∧ (b = want → vcOp P T o.op (evalE env) st fun v st' => vcL ops rest (updO env o.dst v) st' K) ∧ (b ≠ want → vcL ops rest (updO env o.dst .junk) st K)
          | _ => False
        | none => False
      | none => False

/-- operations in an open order: none turns an own thing -/
def vcQ (ops : List Oper) (st : List AO) : List Oper → Env → (Env → Prop) → Prop
  | [], env, K => K env
  | o :: rest, env, K => match o.guard with
    | none => vcOp P T o.op (evalE env) st fun v st' => st' = st ∧ vcQ ops st rest (updO env o.dst v) K
    | some (j, want) => match ops[j]? with
      | some oj => match oj.dst with
        | some d => match env d with
          | .v (.one (.sc (.bool b))) => d < N.n ∧ (b = want → vcOp P T o.op (evalE env) st fun v st' => st' = st ∧ vcQ ops st rest (updO env o.dst v) K) ∧ (b ≠ want → vcQ ops st rest (updO env o.dst .junk) K)
          | _ => False
        | none => False
      | none => False

def vc : Code → Env → List AO → Post → Prop
  | .skip, env, st, Q => Q .normal env st
  | .label _, env, st, Q => Q .normal env st
  | .exit l, env, st, Q => Q (.exit l) env st
  | .goto l, env, st, Q => Q (.goto l) env st
  | .ret, env, st, Q => Q .ret env st
  | .seq (.label l) y, env, st, Q => WP P N (.seq (.label l) y) env st Q
  | .seq x y, env, st, Q => vc x env st (Then (fun env st => vc y env st Q) Q)
  | .cond c x y, env, st, Q => match evalE env c with
    | .v (.one (.sc (.bool b))) => (b = true → vc x env st Q) ∧ (b = false → vc y env st Q)
    | _ => False
  | .block id c, env, st, Q => vc c env st (InBlock id Q)
  | .region _ ops false, env, st, Q => vcL P T N ops.toList ops.toList env st (Q .normal)
  | .region _ ops true, env, st, Q => vcQ P T N ops.toList st ops.toList env fun env => Q .normal env st
  | c, env, st, Q => WP P N c env st Q

/-- every slot that is written is there; every open region may be run in its text's order -/
def codeOk (N : Fm) : Code → Bool
  | .region _ ops draw => ops.all (fun o => match o.dst with | some d => decide (d < N.n) | none => true) && (!draw || Region.lexB .any ops)
  | .seq a b => codeOk N a && codeOk N b
  | .cond _ a b => codeOk N a && codeOk N b
  | .block _ c => codeOk N c
  | _ => true

end
end Go.Proofs.Nw.K
end
section
/- K16: 'vc' is sound. -/
open Go Go.RowKit
set_option linter.unusedVariables false
set_option linter.unusedSimpArgs false
namespace Go.Proofs.Nw.K

section
variable {P : Program} {T : Tab} {N : Fm} (hT : TabOk P T)
include hT

omit hT in
theorem vcArith_sound {op : Op} {E : Operand → AV} {k : IntKind} {r : Int} {st : List AO} {K : KO} (h : vcArith k r st K) (ho : OpS P op E st (.sc (.int k (k.wrap r))) st) : ∃ v st', OpS P op E st v st' ∧ K v st' := by
  unfold vcArith at h
  split at h
  · obtain ⟨⟨h1, h2⟩, h3⟩ := h
    rw [wrap_i64_id _ h1 h2] at ho
    exact ⟨_, _, ho, h3⟩
  · exact ⟨_, _, ho, h⟩

theorem vcBin_sound {op : BinOp} {t ty : TypeId} {x y : Operand} {E : Operand → AV} {st : List AO} {K : KO} (h : vcBin T op t (E x) (E y) st K) : ∃ v st', OpS P (.binOp op t x y ty) E st v st' ∧ K v st' := by
  generalize hx : E x = a at h
  generalize hy : E y = b at h
  unfold vcBin at h
  split at h
  all_goals first
    | exact h.elim
    | skip
  · obtain ⟨rfl, h⟩ := h; exact vcArith_sound h (op_add _ _ _ _ _ _ _ hx hy)
  · obtain ⟨rfl, h⟩ := h; exact vcArith_sound h (op_sub _ _ _ _ _ _ _ hx hy)
  · obtain ⟨rfl, h⟩ := h; exact vcArith_sound h (op_mul _ _ _ _ _ _ _ hx hy)
  · obtain ⟨rfl, h0, h⟩ := h; exact vcArith_sound h (op_quo _ _ _ _ _ _ _ hx hy h0)
  · obtain ⟨rfl, h0, h⟩ := h; exact ⟨_, _, op_rem _ _ _ _ _ _ _ hx hy h0, h⟩
  · obtain ⟨rfl, h⟩ := h; exact ⟨_, _, op_eql _ _ _ _ _ _ _ hx hy, h⟩
  · obtain ⟨rfl, h⟩ := h; exact ⟨_, _, op_neq _ _ _ _ _ _ _ hx hy, h⟩
  · obtain ⟨rfl, h⟩ := h; exact ⟨_, _, op_lss _ _ _ _ _ _ _ hx hy, h⟩
  · obtain ⟨rfl, h⟩ := h; exact ⟨_, _, op_leq _ _ _ _ _ _ _ hx hy, h⟩
  · obtain ⟨rfl, h⟩ := h; exact ⟨_, _, op_gtr _ _ _ _ _ _ _ hx hy, h⟩
  · obtain ⟨rfl, h⟩ := h; exact ⟨_, _, op_geq _ _ _ _ _ _ _ hx hy, h⟩
  · obtain ⟨h0, h⟩ := h; exact ⟨_, _, op_sadd _ _ _ _ _ _ hx hy h0, h⟩
  · exact ⟨_, _, op_seql _ _ _ _ _ _ hx hy, h⟩
  · exact ⟨_, _, op_sneq _ _ _ _ _ _ hx hy, h⟩
  · exact ⟨_, _, op_slss _ _ _ _ _ _ hx hy, h⟩
  · exact ⟨_, _, op_sleq _ _ _ _ _ _ hx hy, h⟩
  · exact ⟨_, _, op_sgtr _ _ _ _ _ _ hx hy, h⟩
  · obtain ⟨h0, h⟩ := h; exact ⟨_, _, op_beql _ _ _ _ _ _ (hT.kbool _ h0) hx hy, h⟩
  · exact ⟨_, _, op_peql_nil _ _ _ _ _ _ (hT.pt _ h.1) hx hy, h.2⟩
  · exact ⟨_, _, op_peql_nils _ _ _ _ (hT.pt _ h.1) hx hy, h.2⟩
  · obtain ⟨⟨rfl, rfl⟩, h1, h2⟩ := h; exact ⟨_, _, op_pneq_same _ _ _ _ _ _ (hT.pt _ h1) hx hy, h2⟩
  · split at h
    · rename_i n a b h1 h2 h3
      obtain ⟨h4, h5, h⟩ := h
      exact ⟨_, _, op_aggeq false _ _ _ _ n _ _ a b (hT.ss _ _ h1) hx hy h2 h3 h4 h5, h⟩
    · exact h.elim
  · split at h
    · rename_i n a b h1 h2 h3
      obtain ⟨h4, h5, h⟩ := h
      exact ⟨_, _, op_aggeq true _ _ _ _ n _ _ a b (hT.ss _ _ h1) hx hy h2 h3 h4 h5, h⟩
    · exact h.elim

theorem vcLoad_sound {t : TypeId} {x : Operand} {E : Operand → AV} {st : List AO} {K : KO} (h : vcLoad T t (E x) st K) : ∃ v st', OpS P (.load t x) E st v st' ∧ K v st' := by
  generalize hx : E x = a at h
  unfold vcLoad at h
  split at h
  · rename_i n cells hl; exact ⟨_, _, op_load_ref _ _ n cells (hT.ld _ _ hl) hx h.1, h.2⟩
  · rename_i n cells hl
    split at h
    · rename_i d hd; exact ⟨_, _, op_load_ref1 _ _ n d cells (hT.ld _ _ hl) hx hd, h⟩
    · exact h.elim
  · rename_i n s off hl
    split at h
    · rename_i cells hst
      split at h
      · rename_i ds hds; exact ⟨_, _, op_load_ptr _ _ n s off ds cells (hT.ld _ _ hl) hx hst hds h.1, h.2⟩
      · exact h.elim
    · exact h.elim
  · rename_i n s off hl
    split at h
    · rename_i cells hst
      split at h
      · rename_i a ha; exact ⟨_, _, op_load_ptr1 _ _ n s off a cells (hT.ld _ _ hl) hx hst ha, h⟩
      · exact h.elim
    · exact h.elim
  · rename_i n s v i off hl
    split at h
    · rename_i v' e sz xs hst
      obtain ⟨rfl, cells, h1, h2, h3⟩ := h
      exact ⟨_, _, op_load_ep _ _ n s v i off e sz xs cells (hT.ld _ _ hl) hx hst h1 h2, h3⟩
    · exact h.elim
  · rename_i n s v i off hl
    split at h
    · rename_i v' e sz xs hst
      obtain ⟨rfl, cells, d, h1, h2, h3⟩ := h
      exact ⟨_, _, op_load_ep1 _ _ n s v i off e sz d xs cells (hT.ld _ _ hl) hx hst h1 h2, h3⟩
    · exact h.elim
  · exact h.elim

theorem vcStore_sound {t : TypeId} {x y : Operand} {E : Operand → AV} {st : List AO} {K : KO} (h : vcStore T t (E x) (E y) st K) : ∃ v st', OpS P (.store t x y) E st v st' ∧ K v st' := by
  generalize hx : E x = a at h
  generalize hy : E y = b at h
  unfold vcStore at h
  split at h
  · rename_i n s off ds hl
    split at h
    · rename_i cells hst; exact ⟨_, _, op_store_ptr _ _ _ n s off ds cells (hT.ld _ _ hl) hx hy hst h.1 h.2.1, h.2.2⟩
    · exact h.elim
  · rename_i hl
    split at h
    · rename_i cells hst; exact ⟨_, _, op_store_ptr1 _ _ _ _ _ _ cells (hT.ld _ _ hl) hx hy hst h.1 h.2.1, h.2.2⟩
    · exact h.elim
  · exact h.elim

omit hT in
/-- an operation ahead of which what is known is seen otherwise -/
theorem OpS.pre {op : Op} {E E1 : Operand → AV} {st st1 st' : List AO} {v : AV} (h : OpS P op E1 st1 v st')
    (hp : ∀ w0 σ0 σ gh (ρ : Operand → Value) w, Base w0 σ0 σ gh st w → (∀ x ∈ op.operands, RepA σ gh st (ρ x) (E x)) → ∃ σ1 gh1, Fut w0 σ0 σ gh st σ1 gh1 st1 w ∧ ∀ x ∈ op.operands, RepA σ1 gh1 st1 (ρ x) (E1 x)) : OpS P op E st v st' := by
  intro o ho w0 σ0 σ gh ρ w hb hρ
  obtain ⟨σ1, gh1, hf, hρ1⟩ := hp w0 σ0 σ gh ρ w hb hρ
  have := h o ho w0 σ0 σ1 gh1 ρ w hf.base hρ1
  unfold Out at this ⊢
  split
  · rename_i u w' e
    rw [e] at this
    obtain ⟨σ', gh', h1, h2⟩ := this
    exact ⟨σ', gh', hf.trans h1, h2⟩
  · rename_i w' e
    rw [e] at this
    obtain ⟨h0, σ', gh', h1⟩ := this
    exact ⟨h0, σ', gh', hf.trans h1⟩
  · rename_i f args w' e
    rw [e] at this
    exact this.mono fun _ _ ⟨u, h0, σ', gh', h1, h2⟩ => ⟨u, h0, σ', gh', hf.trans h1, h2⟩
  · rename_i hn1 hn2 hn3
    split at this
    · rename_i u w' e; exact (hn1 _ _ e).elim
    · rename_i w' e; exact (hn2 _ e).elim
    · rename_i f args w' e; exact (hn3 _ _ _ e).elim
    · exact this

open Classical in
theorem vcStoreG_sound {t : TypeId} {x y : Operand} {E : Operand → AV} {st : List AO} {K : KO} (h : vcStoreG T t (E x) (E y) st K) : ∃ v st', OpS P (.store t x y) E st v st' ∧ K v st' := by
  generalize hy : E y = b at h
  unfold vcStoreG at h
  split at h
  · rename_i s k lo n
    rcases h with h | h
    · rw [← hy] at h; exact vcStore_sound hT h
    · split at h
      · rename_i k' e sz xs hst
        obtain ⟨⟨rfl, rfl, hn⟩, h⟩ := h
        have hxy : x ≠ y := fun e' => by
          subst e'
          rw [hy] at h
          unfold vcStore at h
          split at h <;> first | exact h.elim | (rename_i hx _; cases hx) | (rename_i hx; cases hx) | skip
          all_goals simp_all
        let E1 : Operand → AV := fun z => if z = y then .list sz xs else E z
        have e1 : E1 x = E x := by simp [E1, hxy]
        have e2 : E1 y = .list sz xs := by simp [E1]
        rw [← e1, ← e2] at h
        obtain ⟨v, st', h1, h2⟩ := vcStore_sound hT h
        refine ⟨v, st', h1.pre fun w0 σ0 σ gh ρ w hb hρ => ?_, h2⟩
        have hu := hρ y (by simp [Op.operands])
        rw [hy] at hu
        obtain ⟨g, hg, hR, A, c, hv⟩ := h_val hb hst hu
        obtain ⟨σ', hf, hrep⟩ := seal_row hb hst hg
        have hug : ρ y = g := by
          obtain ⟨h0, ⟨a1, a2, a3⟩ | ⟨b, m, c2, a1, a2, ⟨a3, a4, _⟩ | a3⟩⟩ := hR
          · exact a3
          · omega
          · obtain ⟨A', c', hgv, hc'⟩ := row_val hb hst hg
            rw [a1] at hgv
            injection hgv with e1 e2 e3
            rw [a3, a1, e2, hn]; simp
        refine ⟨σ', gh, hf, fun z hz => ?_⟩
        by_cases hzy : z = y
        · subst hzy
          show RepA σ' gh _ _ (E1 z)
          rw [e2, hug]; exact hrep
        · show RepA σ' gh _ _ (E1 z)
          simp only [E1, if_neg hzy]
          exact hf.keep _ _ (hρ z hz)
      · exact h.elim
  · rw [← hy] at h; exact vcStore_sound hT h

theorem vcIndexAddr_sound {t : TypeId} {x i : Operand} {E : Operand → AV} {st : List AO} {K : KO} (h : vcIndexAddr T t (E x) (E i) st K) : ∃ v st', OpS P (.indexAddr t x i) E st v st' ∧ K v st' := by
  generalize hx : E x = a at h
  generalize hi : E i = b at h
  unfold vcIndexAddr at h
  split at h
  · rename_i e sz α sz' enc z xs k n hl
    obtain ⟨rfl, h1, h2, h3⟩ := h
    exact ⟨_, _, op_indexAddr_tl _ e _ _ _ _ _ _ _ _ _ (hT.el _ _ hl) hx hi h1 h2, h3⟩
  · rename_i e sz sz' xs k n hl
    obtain ⟨rfl, h1, cells, h2, h3⟩ := h
    exact ⟨_, _, op_indexAddr _ e _ _ _ _ _ _ _ (hT.el _ _ hl) hx hi h1 h2, h3⟩
  · rename_i e sz s v lo m k n hl
    split at h
    · rename_i v' e' sz' xs hst
      obtain ⟨rfl, rfl, h1, h2, h3⟩ := h
      exact ⟨_, _, op_indexAddr_h _ e _ _ _ _ _ _ _ _ _ _ _ (hT.el _ _ hl) hx hi hst h1 h2, h3⟩
    · exact h.elim
  · exact h.elim

omit hT in
theorem vcLo_sound {E : Operand → AV} {o : Option Operand} {K : Nat → Prop} (h : vcLo E o K) : ∃ l, loIs E l o ∧ K l := by
  unfold vcLo at h
  split at h
  · exact ⟨0, rfl, h⟩
  · rename_i x
    split at h
    · rename_i n hn; exact ⟨n.toNat, ⟨n, hn, h.1, rfl⟩, h.2⟩
    · exact h.elim

omit hT in
theorem vcHi_sound {E : Operand → AV} {len : Nat} {o : Option Operand} {K : Nat → Prop} (h : vcHi E len o K) : ∃ l, hiIs E len l o ∧ K l := by
  unfold vcHi at h
  split at h
  · exact ⟨len, rfl, h⟩
  · rename_i x
    split at h
    · rename_i n hn; exact ⟨n.toNat, ⟨n, hn, h.1, rfl⟩, h.2⟩
    · exact h.elim

theorem vcSlice_sound {t : TypeId} {x : Operand} {lo hi : Option Operand} {E : Operand → AV} {st : List AO} {K : KO} (h : vcSlice T t (E x) lo hi E st K) : ∃ v st', OpS P (.slice t x lo hi none) E st v st' ∧ K v st' := by
  generalize hx : E x = a at h
  unfold vcSlice at h
  split at h
  · rename_i s
    obtain ⟨h0, h⟩ := h
    obtain ⟨l, hl, h⟩ := vcLo_sound h
    obtain ⟨hh', hh, h1, h2, h3⟩ := vcHi_sound h
    refine ⟨_, _, op_slice_str t x lo hi l hh' s (hT.kstr _ h0) hx ?_ ?_ h1 h2, h3⟩
    · cases lo <;> exact hl
    · cases hi <;> exact hh
  · rename_i α sz enc z xs
    split at h
    · rename_i e sz' hl'
      obtain ⟨rfl, h⟩ := h
      obtain ⟨l, hl, h⟩ := vcLo_sound h
      obtain ⟨hh', hh, h1, h2, h3⟩ := vcHi_sound h
      exact ⟨_, _, op_slice_tl t e x lo hi l hh' α _ enc z xs (hT.el _ _ hl') hx hl hh h1 h2, h3⟩
    · exact h.elim
  · rename_i sz xs
    split at h
    · rename_i e sz' hl'
      obtain ⟨rfl, h⟩ := h
      obtain ⟨l, hl, h⟩ := vcLo_sound h
      obtain ⟨hh', hh, h1, h2, h3⟩ := vcHi_sound h
      exact ⟨_, _, op_slice_list t e _ x lo hi l hh' xs (hT.el _ _ hl') hx hl hh h1 h2, h3⟩
    · exact h.elim
  · rename_i s k off n
    split at h
    · rename_i e sz' k' e' sz xs hl' hst
      obtain ⟨rfl, rfl, h⟩ := h
      obtain ⟨l, hl, h⟩ := vcLo_sound h
      obtain ⟨hh', hh, h1, h2, h3⟩ := vcHi_sound h
      exact ⟨_, _, op_slice_h t e _ x lo hi l hh' s k off n e' xs (hT.el _ _ hl') hx hst hl hh h1 h2, h3⟩
    · exact h.elim
  · exact h.elim

end

theorem srcRows_sound {st : List AO} {sz : Nat} {a : AV} {K : List (List D) → Prop} (h : srcRows st sz a K) : ∃ ys, Src st (unT a) sz ys ∧ K ys := by
  unfold srcRows at h
  split at h
  · obtain ⟨rfl, h⟩ := h; exact ⟨_, .list, h⟩
  · obtain ⟨rfl, h⟩ := h; exact ⟨_, .list, h⟩
  · exact ⟨_, .nils, h⟩
  · split at h
    · rename_i hst; obtain ⟨rfl, rfl, h⟩ := h; exact ⟨_, .h hst rfl, h⟩
    · exact h.elim
  · exact h.elim

theorem unT_h {a : AV} {s k lo n : Nat} (h : a = .h s k lo n) : unT a = .h s k lo n := by subst h; rfl
theorem unT_nils {a : AV} (h : a = .nils) : unT a = .nils := by subst h; rfl

section
variable {P : Program} {T : Tab} {N : Fm} (hT : TabOk P T)
include hT

theorem vcAppend_sound {t : TypeId} {x y : Operand} {E : Operand → AV} {st : List AO} {K : KO} (h : vcAppend T t (E x) (E y) st K) :
    ∃ v st', OpS P (.call { callee := .builtin .append, args := #[x, y], argTypes := #[t, t] }) E st v st' ∧ K v st' := by
  generalize hx : E x = a at h
  unfold vcAppend at h
  split at h
  · rename_i e sz by_ hl
    obtain ⟨ys, h1, h2, h3, h4⟩ := srcRows_sound h
    exact ⟨_, _, OpS.unT (op_append_nils t e sz by_ x y ys (hT.ap _ _ hl) (unT_nils hx) h1 h2 h3), h4⟩
  · rename_i e sz by_ sz' xs hl
    obtain ⟨rfl, hne, h⟩ := h
    obtain ⟨ys, h1, h2, h3, h4, h5⟩ := srcRows_sound h
    exact ⟨_, _, OpS.unT (op_append_full t e _ by_ x y xs ys (hT.ap _ _ hl) (by show unT (E x) = _; rw [hx]; rfl) h1 h2 hne h3 h4), h5⟩
  · rename_i e sz by_ s k lo n hl
    split at h
    · rename_i k' e' sz' xs hst
      obtain ⟨⟨rfl, rfl, rfl, rfl⟩, h⟩ := h
      obtain ⟨ys, h1, h2, h3, h4⟩ := srcRows_sound h
      exact ⟨_, _, OpS.unT (op_append_h t _ _ by_ x y s k n xs ys (hT.ap _ _ hl) (unT_h hx) hst h1 h2 h3), h4⟩
    · exact h.elim
  · exact h.elim

theorem vcAppendS_sound {t t' : TypeId} {x y : Operand} {E : Operand → AV} {st : List AO} {K : KO} {s : ByteArray} (hk : T.kd t' = .str) (hy : E y = .str s) (h : vcAppendS T t (E x) s st K) :
    ∃ v st', OpS P (.call { callee := .builtin .append, args := #[x, y], argTypes := #[t, t'] }) E st v st' ∧ K v st' := by
  generalize hx : E x = a at h
  unfold vcAppendS at h
  split at h
  · rename_i e hl; exact ⟨_, _, op_appendS_nils t t' e x y s (hT.bb _ _ hl) (hT.kstr _ hk) hx hy h.1, h.2⟩
  · rename_i e r k lo n hl
    split at h
    · rename_i k' e' sz xs hst
      obtain ⟨⟨rfl, rfl, rfl, rfl⟩, h1, h2⟩ := h
      exact ⟨_, _, op_appendS_h t t' _ x y s r k n xs (hT.bb _ _ hl) (hT.kstr _ hk) hx hst hy h1, h2⟩
    · exact h.elim
  · exact h.elim

theorem vcLen_sound {t : TypeId} {x : Operand} {E : Operand → AV} {st : List AO} {K : KO} (h : vcLen T t (E x) st K) :
    ∃ v st', OpS P (.call { callee := .builtin .len, args := #[x], argTypes := #[t] }) E st v st' ∧ K v st' := by
  generalize hx : E x = a at h
  unfold vcLen at h
  split at h
  · rename_i e sz xs hk; exact ⟨_, _, op_len t x _ (by rw [hx]; exact .list (hT.kslice _ _ hk)), h⟩
  · rename_i e α sz enc z xs hk
    refine ⟨_, _, OpS.unT (op_len t x xs.length ?_), h⟩
    have : unT (E x) = .list sz (xs.map enc) := by rw [hx]; rfl
    simp only [this]
    have := LenOf.list (P := P) (st := st) (t := t) (sz := sz) (xs := xs.map enc) (hT.kslice _ _ hk)
    simpa using this
  · rename_i e hk; exact ⟨_, _, op_len t x 0 (by rw [hx]; exact .nils (hT.kslice _ _ hk)), h⟩
  · rename_i e s k lo n hk
    split at h
    · rename_i k' e' sz xs hst; obtain ⟨rfl, h⟩ := h; exact ⟨_, _, op_len t x n (by rw [hx]; exact .h (hT.kslice _ _ hk) hst), h⟩
    · exact h.elim
  · rename_i s hk; exact ⟨_, _, op_len t x _ (by rw [hx]; exact .str (hT.kstr _ hk)), h⟩
  · exact h.elim

omit hT in
theorem sealK_sound : ∀ {as : List AV} {st : List AO} {K : List AO → List DV → Prop}, sealK st as K → ∃ st' ds, K st' ds ∧ ∀ w0 σ0 σ gh w (vs : List Value), Base w0 σ0 σ gh st w → vs.length = as.length →
    (∀ (i : Nat) v a, vs[i]? = some v → as[i]? = some a → RepA σ gh st v a) → ∃ σ', Fut w0 σ0 σ gh st σ' gh st' w ∧ RepVs σ' vs ds
  | [], st, K, h => ⟨st, [], h, fun w0 σ0 σ gh w vs hb hl _ => ⟨σ, .refl hb, by simpa using hl, fun i v d _ hd => by simp at hd⟩⟩
  | a :: r, st, K, h => by
    cases a with
    | v d =>
      have h : sealK st r (fun st' ds => K st' (d :: ds)) := h
      obtain ⟨st', ds, hK, hs⟩ := sealK_sound h
      refine ⟨st', d :: ds, hK, fun w0 σ0 σ gh w vs hb hl hr => ?_⟩
      cases vs with
      | nil => simp at hl
      | cons v vs =>
        obtain ⟨σ', hf, hv⟩ := hs w0 σ0 σ gh w vs hb (by simpa using hl) (fun i v a hv ha => hr (i + 1) v a (by simpa using hv) (by simpa using ha))
        have h0 := hf.keep _ _ (hr 0 v _ rfl rfl)
        refine ⟨σ', hf, by simp [hv.1], fun i u d' hu hd => ?_⟩
        cases i with
        | zero => simp at hu hd; subst hu hd; exact h0
        | succ i => simp at hu hd; exact hv.2 i u d' hu hd
    | h s k lo n =>
      unfold sealK at h
      split at h
      · rename_i k' e sz xs hst
        obtain ⟨⟨rfl, rfl, hn⟩, h⟩ := h
        obtain ⟨st', ds, hK, hs⟩ := sealK_sound h
        refine ⟨st', .one (.list sz xs) :: ds, hK, fun w0 σ0 σ gh w vs hb hl hr => ?_⟩
        cases vs with
        | nil => simp at hl
        | cons v vs =>
          have hh := hr 0 v _ rfl rfl
          obtain ⟨g, hg, hR, A, c, hv⟩ := h_val hb hst hh
          obtain ⟨σ1, hf1, hrep⟩ := seal_row hb hst hg
          have hvg : v = g := by
            obtain ⟨h0, ⟨a1, a2, a3⟩ | ⟨b, m, c2, a1, a2, ⟨a3, a4, _⟩ | a3⟩⟩ := hR
            · exact a3
            · omega
            · obtain ⟨A', c', hgv, hc'⟩ := row_val hb hst hg
              rw [a1] at hgv
              injection hgv with e1 e2 e3
              subst hn e2
              rw [a3, a1]; simp
          subst hvg
          obtain ⟨σ', hf, hv'⟩ := hs w0 σ0 σ1 gh w vs hf1.base (by simpa using hl) (fun i v a hv ha => hf1.keep _ _ (hr (i + 1) v a (by simpa using hv) (by simpa using ha)))
          have h0 : RepA σ' gh st' v (.list sz xs) := hf.keep v (.list sz xs) hrep
          refine ⟨σ', hf1.trans hf, by simp [hv'.1], fun i u d' hu hd => ?_⟩
          cases i with
          | zero => simp at hu hd; subst hu hd; exact h0
          | succ i => simp at hu hd; exact hv'.2 i u d' hu hd
      · exact h.elim
    | _ => exact (h : False).elim

omit hT in
theorem scDV_rep {σ σ' : Sig} {v : Value} {d : DV} (h : scDV d = true) (hr : RepV σ v d) : RepV σ' v d := by
  unfold scDV at h
  split at h
  · have hr : Rep σ v (.sc _) := hr
    cases hr with
    | sc h => exact Rep.sc h
  · cases h

theorem vcCall_sound {x : Operand} {args : Array Operand} {ts : Array TypeId} {E : Operand → AV} {st : List AO} {K : KO} (h : vcCall P T (E x) (args.toList.map E) st K) :
    ∃ v st', OpS P (.call { callee := .value x, args := args, argTypes := ts }) E st v st' ∧ K v st' := by
  generalize hx : E x = a at h
  unfold vcCall at h
  split at h
  · rename_i f
    split at h
    · rename_i hei
      split at h
      · rename_i a ha
        obtain ⟨l⟩ := args
        match l, ha with
        | [y], ha =>
          have ha : E y = a := by simpa using ha
          subst ha
          exact ⟨_, _, op_call_id x y f ts hx (hT.ei _ hei), h⟩
      · exact h.elim
    obtain ⟨hcl, h⟩ := h
    have hc := hT.cl _ hcl
    split at h
    · rename_i ds hds
      obtain ⟨ds', res, h1, h2, h3⟩ := h
      exact ⟨_, _, op_call x f args ts ds res hx hc hds (h1.le h2), h3⟩
    · have hrun : ∀ (o : Oper), o.op = .call { callee := .value x, args := args, argTypes := ts } → ∀ {w0 σ0 σ gh} {ρ : Operand → Value} {w}, Base w0 σ0 σ gh st w → (∀ y ∈ (Op.call { callee := .value x, args := args, argTypes := ts }).operands, RepA σ gh st (ρ y) (E y)) →
          (execOp ρ o).run P w = .ok (.enter f (args.toList.map ρ).toArray) w ∧ (args.toList.map ρ).length = (args.toList.map E).length ∧ ∀ (i : Nat) v a, (args.toList.map ρ)[i]? = some v → (args.toList.map E)[i]? = some a → RepA σ gh st v a := by
        intro o ho w0 σ0 σ gh ρ w hb hρ
        have hf := hρ x (by simp [Op.operands, Call.operands])
        rw [hx] at hf
        have hf := RepA_sc hf
        refine ⟨?_, by simp, fun i v a hv ha => ?_⟩
        · have he : (args.toList.map ρ).toArray = args.map ρ := by apply Array.ext'; simp
          rw [he]
          simp only [execOp, ho, resolve, hf, Deferred.ofValue, Sem.run_bind, Sem.run_pure, Result.andThen_ok, invoke]
          have e1 : (⟨[]⟩ ++ Array.map ρ args ++ ⟨[]⟩ : Array Value) = Array.map ρ args := by simp
          rw [e1]
          exact callFunc_run hc (args.map ρ) w
        · simp only [List.getElem?_map, Option.map_eq_some_iff] at hv ha
          obtain ⟨y, hy, rfl⟩ := hv
          obtain ⟨z, hz, rfl⟩ := ha
          rw [hy] at hz
          cases hz
          refine hρ y ?_
          have hm : y ∈ args := by rw [← Array.mem_toList_iff]; exact List.mem_of_getElem? hy
          simp only [Op.operands, Call.operands]
          exact Array.mem_append.2 (.inr hm)
      rcases h with ⟨res, st', h1, h2⟩ | h | h
      · exact ⟨_, _, op_calleff x f args ts _ res st' hx hc rfl h1, h2⟩
      · obtain ⟨st', ds, ⟨ds', res, h1, h2, h3⟩, hs⟩ := sealK_sound h
        refine ⟨_, _, fun o ho w0 σ0 σ gh ρ w hb hρ => ?_, h3⟩
        obtain ⟨r1, r2, r3⟩ := hrun o ho hb hρ
        rw [r1]
        obtain ⟨σ1, hf, hv⟩ := hs w0 σ0 σ gh w _ hb r2 r3
        refine Calls.mono (h1 w σ1 _ hf.base.sl (h2.rep hv)) fun e w' ⟨u, σ', e1, c1, c2, c3, c4⟩ => ?_
        exact ⟨u, e1, σ', gh, hf.trans (Fut.call hf.base c1 c2 c3), resAV_rep c4⟩
      · obtain ⟨st', ds, ⟨ds', res, h1, h2, h4, h3⟩, hs⟩ := sealK_sound h
        refine ⟨_, st, fun o ho w0 σ0 σ gh ρ w hb hρ => ?_, h3⟩
        obtain ⟨r1, r2, r3⟩ := hrun o ho hb hρ
        rw [r1]
        obtain ⟨σ1, hf, hv⟩ := hs w0 σ0 σ gh w _ hb r2 r3
        refine Calls.mono (h1 w σ1 _ hf.base.sl (h2.rep hv)) fun e w' ⟨u, σ', e1, c1, c2, c3, c4⟩ => ?_
        refine ⟨u, e1, σ, gh, ⟨hb.grown ⟨c1.os, c1.tape, c1.output, c1.size, fun k hk _ => c1.block k hk⟩, fun _ _ h => h⟩, ?_⟩
        have hall := List.all_eq_true.1 h4
        refine resAV_rep ?_
        unfold RepRes at c4 ⊢
        split at c4
        · exact scDV_rep (hall _ (by simp)) c4
        · obtain ⟨us, e2, e3⟩ := c4
          exact ⟨us, e2, e3.1, fun i v d hv hd => scDV_rep (hall d (List.mem_of_getElem? hd)) (e3.2 i v d hv hd)⟩
  · exact h.elim

theorem vcConv_sound {s d : TypeId} {x : Operand} {E : Operand → AV} {st : List AO} {K : KO} (h : vcConv T s d (E x) st K) : ∃ v st', OpS P (.convert s d x) E st v st' ∧ K v st' := by
  generalize hx : E x = a at h
  unfold vcConv at h
  split at h
  · rename_i i h1 h2
    split at h
    · rename_i bT cells b n hst hcv
      obtain ⟨⟨rfl, rfl⟩, h⟩ := h
      exact ⟨_, _, op_convert_ptr s d x i _ cells hx hst (hT.cv _ _ _ _ hcv), h⟩
    · exact h.elim
  · rename_i k' k k2 n h1 h2
    obtain ⟨rfl, h⟩ := h
    exact ⟨_, _, op_convert_int s d x k _ n _ (hT.kint _ _ h1) (hT.kint _ _ h2) hx rfl, h⟩
  · rename_i e h1 h2
    obtain ⟨h0, h⟩ := h
    obtain ⟨ys, h3, ns, rfl, h4⟩ := srcRows_sound h
    exact ⟨_, _, OpS.unT (op_bytesToString s d e x ns (hT.kslice _ _ h1) (hT.kint _ _ h0) (hT.kstr _ h2) (by rw [hx]; exact h3)), h4⟩
  · exact h.elim

theorem vcOp_sound {op : Op} {E : Operand → AV} {st : List AO} {K : KO} (h : vcOp P T op E st K) : ∃ v st', OpS P op E st v st' ∧ K v st' := by
  unfold vcOp at h
  split at h
  · exact ⟨_, _, op_move _, force_out h⟩
  · exact ⟨_, _, op_assign _, force_out h⟩
  · split at h
    · rename_i b hc
      cases b
      · exact ⟨_, _, op_pick _ _ _ false hc, force_out (h.2 rfl)⟩
      · exact ⟨_, _, op_pick _ _ _ true hc, force_out (h.1 rfl)⟩
    · exact h.elim
  · exact vcBin_sound hT h
  · split at h
    · rename_i b hx; exact ⟨_, _, op_not _ _ b hx, h⟩
    · exact h.elim
  · exact vcConv_sound hT h
  · split at h
    · rename_i cells hz; exact ⟨_, _, op_alloc _ cells (hT.zb _ _ hz), h⟩
    · exact h.elim
  · split at h
    · rename_i ds hx; exact ⟨_, _, op_box_agg _ _ ds hx, h⟩
    · exact ⟨_, _, op_box1 _ _ _ rfl h.1, h.2⟩
  · split at h
    · rename_i zs ps hz hp
      split at h
      · rename_i ds hf; exact ⟨_, _, op_build _ _ zs ds ps (hT.zd _ _ hz) (hT.bt _ _ hp) hf, h⟩
      · exact h.elim
    · exact h.elim
  · split at h
    · rename_i e sz hl; exact ⟨_, _, op_buildSlice0 _ e sz (hT.el _ _ hl), h⟩
    · exact h.elim
  · split at h
    · rename_i e sz hl
      split at h
      · rename_i zs hz
        split at h
        · rename_i ds hf
          obtain ⟨h1, h2, h3, h4, h5⟩ := h
          have hop := op_buildSlice (E := E) (st := st) _ e sz _ _ zs ds (hT.el _ _ hl) (hT.zd _ _ hz) h1 h2 h3 hf h4
          rcases h5 with h5 | h5
          · exact ⟨_, _, hop.weaken (v' := .list sz _) (fun σ gh u hu => full_list hu) (fun hj => by cases hj), h5⟩
          · exact ⟨_, _, hop, h5⟩
        · exact h.elim
      · exact h.elim
    · exact h.elim
  · exact vcLoad_sound hT h
  · exact vcStoreG_sound hT h
  · split at h
    · rename_i k i off hf hx; exact ⟨_, _, op_fieldAddr_ptr _ _ _ i off k (hT.fo _ _ _ hf) hx, h⟩
    · rename_i k cells hf hx; exact ⟨_, _, op_fieldAddr_ref _ _ _ k cells (hT.fo _ _ _ hf) hx, h⟩
    · rename_i k i v j off hf hx
      split at h
      · rename_i v' e sz xs hst
        obtain ⟨rfl, h⟩ := h
        exact ⟨_, _, op_fieldAddr_ep _ _ _ i v j off k (hT.fo _ _ _ hf) hx _ hst ⟨e, sz, xs, rfl⟩, h⟩
      · exact h.elim
    · exact h.elim
  · exact vcIndexAddr_sound hT h
  · split at h
    · rename_i s k n hx hi; exact ⟨_, _, op_index_str _ _ _ k n s (hT.kstr _ h.1) hx hi h.2.1 h.2.2.1, h.2.2.2⟩
    · exact h.elim
  · exact vcSlice_sound hT h
  · split at h
    · rename_i vs hx
      split at h
      · rename_i d hd; exact ⟨_, _, op_extract _ _ vs d hx hd, h⟩
      · exact h.elim
    · exact h.elim
  · exact ⟨_, _, op_makeFunc _, h⟩
  · exact vcCall_sound hT h
  · exact vcLen_sound hT h
  · split at h
    · rename_i s hy; exact vcAppendS_sound hT h.1 hy h.2
    · obtain ⟨rfl, h⟩ := h; exact vcAppend_sound hT h
  · split at h
    · rename_i s off hx; exact ⟨_, _, op_nilCheck_ptr _ _ _ hx, h⟩
    · rename_i cells hx; exact ⟨_, _, op_nilCheck_ref _ _ hx, h⟩
    · exact h.elim
  · exact ⟨_, _, op_makeMap _, h⟩
  · split at h
    · rename_i s k hx hi
      split at h
      · rename_i es hst
        obtain ⟨zd, l, d, h1, rfl, rfl, h2⟩ := h
        exact ⟨_, _, op_lookup _ _ _ s zd l k h1 hx hst hi, h2⟩
      · exact h.elim
    · exact h.elim
  · split at h
    · rename_i s k d hx hi hy
      split at h
      · rename_i es hst
        obtain ⟨zd, l, h1, rfl, h2⟩ := h
        exact ⟨_, _, op_mapUpdate _ _ _ _ s zd d l k h1 hx hst hi hy, h2⟩
      · exact h.elim
    · exact h.elim
  · exact h.elim

omit hT in
theorem nil_of_list {σ : Sig} {v : Value} {sz : Nat} {xs : List (List D)} (h : Rep σ v (.list sz xs)) : ∃ a n c, v = .slice a n c ∧ (a = none → xs = []) := by
  cases h with
  | nil _ => exact ⟨_, _, _, rfl, fun _ => rfl⟩
  | list => exact ⟨_, _, _, rfl, fun h => by cases h⟩

omit hT in
theorem op_eql_nil {t e ty : TypeId} {x : Operand} {E : Operand → AV} {st : List AO} {K : KO} {sz : Nat} {xs : List (List D)} (hu : P.underlying t = some (.slice e)) (hy : E (.const (.slice none 0 0)) = .nils) (hx : ∀ σ gh u, RepA σ gh st u (E x) → Rep σ u (.list sz xs))
    (h1 : xs = [] → K (.bool true) st) (h2 : K (.bool false) st) : OpN P (.binOp .eql t x (.const (.slice none 0 0)) ty) E st K := by
  intro o ho w0 σ0 σ gh ρ w hb hρ
  have hv := hx _ _ _ (hρ x (by simp [Op.operands]))
  obtain ⟨a, n, c, hv, hn⟩ := nil_of_list hv
  have hc := hρ (.const (.slice none 0 0)) (by simp [Op.operands])
  rw [hy] at hc
  have hc := nils_val hc
  have hg : eqGuard .eql t x (.const (.slice none 0 0)) (.slice a n c) (.slice none 0 0) = pure () := rfl
  have hrun : (execOp ρ o).run P w = .ok (.value (.bool a.isNone)) w := by
    simp [execOp, ho, hv, hc, hg, Lib.run_eql_slice_nil w t e a n c 0 0 hu]
  rw [hrun]
  cases a with
  | none => exact ⟨.bool true, st, h1 (hn rfl), σ, gh, .refl hb, RepA_of_sc rfl⟩
  | some a => exact ⟨.bool false, st, h2, σ, gh, .refl hb, RepA_of_sc rfl⟩

omit hT in
theorem OpN.mono {op : Op} {E : Operand → AV} {st : List AO} {V W : AV → List AO → Prop} (h : OpN P op E st V) (k : ∀ v st', V v st' → W v st') : OpN P op E st W :=
  fun o ho w0 σ0 σ gh ρ w hb hρ => let ⟨v, st', h1, h2⟩ := h o ho w0 σ0 σ gh ρ w hb hρ; ⟨v, st', k _ _ h1, h2⟩

theorem vcOp2_sound {op : Op} {env : Env} {st : List AO} {K : KO} (h : vcOp2 P T op (evalE env) st K) : OpN P op (evalE env) st K := by
  unfold vcOp2 at h
  split at h
  · split at h
    · rename_i α sz enc z xs hk hx
      refine op_eql_nil (sz := sz) (xs := xs.map enc) (hT.kslice _ _ hk) rfl (fun σ gh u hu => ?_) (fun e => h.1 (List.map_eq_nil_iff.1 e)) h.2
      rw [hx] at hu
      cases (hu : Rep σ u (.tl _ _ _ _ _)) with
      | tl hu => exact hu
    · rename_i hk hx
      exact op_eql_nil (hT.kslice _ _ hk) rfl (fun σ gh u hu => by rw [hx] at hu; exact hu) h.1 h.2
    · rename_i hk hx
      refine OpS.n (op_pure fun o ho w0 σ0 σ gh ρ w hb hρ => ?_) h
      have hv := hρ _ (by simp [Op.operands]; exact .inl rfl)
      have hc := hρ (.const (.slice none 0 0)) (by simp [Op.operands])
      rw [hx] at hv
      have hv := nils_val hv
      have hc := nils_val (show RepA σ gh st _ .nils from hc)
      have hg : ∀ t x y, eqGuard .eql t x y (.slice none 0 0) (.slice none 0 0) = pure () := fun _ _ _ => rfl
      have hr := Lib.run_eql_slice_nil w _ _ none 0 0 0 0 (hT.kslice _ _ hk)
      exact ⟨.bool true, by simp [execOp, ho, hv, hc, hg, hr], RepA_of_sc rfl⟩
    · exact h.elim
  · obtain ⟨v, st', h1, h2⟩ := vcOp_sound hT h
    exact h1.n h2

def dstOk (N : Fm) (l : List Oper) : Prop := ∀ o ∈ l, ∀ d, o.dst = some d → d < N.n

theorem vcL_sound {ops : List Oper} : ∀ {l : List Oper} {env : Env} {st : List AO} {K : Env → List AO → Prop}, dstOk N l → vcL P T N ops l env st K → WPL P N ops.toArray l env st K
  | [], env, st, K, _, h => WPL_nil h
  | o :: rest, env, st, K, hd, h => by
    have hd0 : ∀ d, o.dst = some d → d < N.n := hd o (by simp)
    have hdr : dstOk N rest := fun o' ho' => hd o' (by simp [ho'])
    obtain ⟨dst, op, ty, pos, after, guard⟩ := o
    unfold vcL at h
    split at h
    · rename_i hg
      simp only at hg
      subst hg
      exact WPL_opN hd0 ((vcOp2_sound hT h).mono fun v st' h2 => vcL_sound hdr h2)
    · rename_i j want hg
      simp only at hg
      subst hg
      split at h
      · rename_i oj hj
        split at h
        · rename_i d hdj
          split at h
          · rename_i b hb
            obtain ⟨hdN, h1, h2⟩ := h
            refine WPL_guard (b := b) (by simpa using hj) hdj hdN hb (fun e => ?_) (fun e => ⟨hd0, vcL_sound hdr (h2 e)⟩)
            obtain ⟨v, st', h3, h4⟩ := vcOp_sound hT (h1 e)
            exact ⟨v, st', h3, hd0, vcL_sound hdr h4⟩
          · exact h.elim
        · exact h.elim
      · exact h.elim

theorem vcQ_sound {ops : List Oper} {st : List AO} : ∀ {l : List Oper} {env : Env} {K : Env → Prop}, dstOk N l → vcQ P T N ops st l env K → WQ P N ops.toArray st K l env
  | [], env, K, _, h => WQ_nil h
  | o :: rest, env, K, hd, h => by
    have hd0 : ∀ d, o.dst = some d → d < N.n := hd o (by simp)
    have hdr : dstOk N rest := fun o' ho' => hd o' (by simp [ho'])
    obtain ⟨dst, op, ty, pos, after, guard⟩ := o
    unfold vcQ at h
    split at h
    · rename_i hg
      simp only at hg
      subst hg
      obtain ⟨v, st', h1, h2, h3⟩ := vcOp_sound hT h
      subst h2
      exact WQ_op h1 hd0 (vcQ_sound hdr h3)
    · rename_i j want hg
      simp only at hg
      subst hg
      split at h
      · rename_i oj hj
        split at h
        · rename_i d hdj
          split at h
          · rename_i b hb
            obtain ⟨hdN, h1, h2⟩ := h
            refine WQ_guard (b := b) (by simpa using hj) hdj hdN hb hd0 (fun e => ?_) (fun e => vcQ_sound hdr (h2 e))
            obtain ⟨v, st', h3, h4, h5⟩ := vcOp_sound hT (h1 e)
            subst h4
            exact ⟨v, h3, vcQ_sound hdr h5⟩
          · exact h.elim
        · exact h.elim
      · exact h.elim

theorem vc_sound : ∀ {c : Code} {env : Env} {st : List AO} {Q : Post}, codeOk N c = true → vc P T N c env st Q → WP P N c env st Q := by
  intro c
  induction c with
  | skip => intro env st Q _ h; exact WP_skip h
  | label l => intro env st Q _ h; exact WP_label h
  | exit l => intro env st Q _ h; exact WP_exit h
  | goto l => intro env st Q _ h; exact WP_goto h
  | ret => intro env st Q _ h; exact WP_ret h
  | seq x y ihx ihy =>
    intro env st Q hok h
    simp only [codeOk, Bool.and_eq_true] at hok
    cases x with
    | label l => exact h
    | _ =>
      refine WP_seq (WP_mono (ihx hok.1 h) fun e env st hq => ?_)
      cases e with
      | normal => exact ihy hok.2 hq
      | _ => exact hq
  | cond c x y ihx ihy =>
    intro env st Q hok h
    simp only [codeOk, Bool.and_eq_true] at hok
    unfold vc at h
    split at h
    · rename_i b hb; exact WP_cond hb (fun e => ihx hok.1 (h.1 e)) (fun e => ihy hok.2 (h.2 e))
    · exact h.elim
  | block id c ih => intro env st Q hok h; exact WP_block (ih hok h)
  | region id ops draw =>
    intro env st Q hok h
    simp only [codeOk, Bool.and_eq_true, Array.all_eq_true_iff_forall_mem] at hok
    have hd : dstOk N ops.toList := fun o ho d hdo => by
      have := hok.1 o (by simpa using ho)
      rw [hdo] at this
      simpa using this
    obtain ⟨l⟩ := ops
    cases draw with
    | false => exact WP_region (vcL_sound hT hd h)
    | true => exact WP_draw hT.mixed (by simpa using hok.2) (vcQ_sound hT hd h)
  | _ => intro env st Q _ h; exact h

end
end Go.Proofs.Nw.K
end
section
/- K17: a function's contract out of its 'vc'; loops and scopes. -/
open Go Go.RowKit
set_option linter.unusedVariables false
set_option linter.unusedSimpArgs false
namespace Go.Proofs.Nw.K

/-- what is handed back; rows of one's own are given out -/
def retK (T : Tab) : List ResultVar → Env → List AO → (List DV → Prop) → Prop
  | [], env, st, K => K []
  | .tmp t :: r, env, st, K => match env t with
    | .v d => retK T r env st fun ds => K (d :: ds)
    | .h s k lo n => match st[s]? with
      | some (.row k' e sz xs) => (k = k' ∧ lo = 0 ∧ n = xs.length) ∧ retK T r (upd env t (.list sz xs)) (st.set s .gone) fun ds => K (.one (.list sz xs) :: ds)
      | _ => False
    | _ => False
  | .cell a t :: r, env, st, K => match env a, T.ld t with
    | .ptr s off, some (n, true) => match st[s]? with
      | some (.box bT cells) => match toDs ((cells.drop off).take n) with
        | some cs => cs.length = n ∧ retK T r env st fun ds => K (.agg cs :: ds)
        | none => False
      | _ => False
    | .ptr s off, some (_, false) => match st[s]? with
      | some (.box bT cells) => match cells[off]? with
        | some (.v (.one d)) => retK T r env st fun ds => K (.one d :: ds)
        | _ => False
      | _ => False
    | _, _ => False

theorem retK_sound {P : Program} {T : Tab} {N : Fm} (hT : TabOk P T) : ∀ {rs : List ResultVar} {env : Env} {st : List AO} {K : List DV → Prop}, retK T rs env st K →
    ∃ env' st' ds, Sub N env st env' st' ∧ resOf P env' st' rs = some ds ∧ K ds ∧ (∀ t d, env t = .v d → env' t = .v d) ∧ (∀ t s off, env t = .ptr s off → env' t = .ptr s off) ∧ ∀ (s : Nat) bT cells, st[s]? = some (.box bT cells) → st'[s]? = some (.box bT cells)
  | [], env, st, K, h => ⟨env, st, [], Sub.refl _ _ _, rfl, h, fun _ _ h => h, fun _ _ _ h => h, fun _ _ _ h => h⟩
  | .tmp t :: r, env, st, K, h => by
    unfold retK at h
    split at h
    · rename_i d hd
      obtain ⟨env', st', ds, h1, h2, h3, h4, h5, h6⟩ := retK_sound hT h
      refine ⟨env', st', d :: ds, h1, ?_, h3, h4, h5, h6⟩
      unfold resOf
      simp only [h4 t d hd, h2]
    · rename_i s k lo n hd
      split at h
      · rename_i k' e sz xs hst
        obtain ⟨⟨rfl, rfl, hn⟩, h⟩ := h
        obtain ⟨env', st', ds, h1, h2, h3, h4, h5, h6⟩ := retK_sound hT h
        have hs := Sub.shut (N := N) (env := env) (st := st) t s _ n e sz xs hd hst hn
        refine ⟨env', st', _ :: ds, hs.trans h1, ?_, h3, fun t' d' hd' => ?_, fun t' s' off' hd' => ?_, fun s' bT cells hc => ?_⟩
        · unfold resOf
          simp only [h4 t _ (upd_same _ _ _), h2]
        · refine h4 t' d' ?_
          have : t' ≠ t := fun e' => by subst e'; rw [hd] at hd'; cases hd'
          rw [upd_other _ _ this]; exact hd'
        · refine h5 t' s' off' ?_
          have : t' ≠ t := fun e' => by subst e'; rw [hd] at hd'; cases hd'
          rw [upd_other _ _ this]; exact hd'
        · refine h6 s' bT cells ?_
          have : s ≠ s' := fun e' => by subst e'; rw [hst] at hc; cases hc
          rw [List.getElem?_set, if_neg this]; exact hc
      · exact h.elim
    · exact h.elim
  | .cell a t :: r, env, st, K, h => by
    unfold retK at h
    split at h
    · rename_i s off n ha hl
      split at h
      · rename_i cells hst
        split at h
        · rename_i cs hcs
          obtain ⟨hn, h⟩ := h
          obtain ⟨env', st', ds, h1, h2, h3, h4, h5, h6⟩ := retK_sound hT h
          refine ⟨env', st', .agg cs :: ds, h1, ?_, h3, h4, h5, h6⟩
          unfold resOf
          simp only [h5 _ _ _ ha, hT.ld _ _ hl, h2, h6 _ _ _ hst, hcs, hn, if_true]
        · exact h.elim
      · exact h.elim
    · rename_i s off n ha hl
      split at h
      · rename_i cells hst
        split at h
        · rename_i d hcs
          obtain ⟨env', st', ds, h1, h2, h3, h4, h5, h6⟩ := retK_sound hT h
          refine ⟨env', st', .one d :: ds, h1, ?_, h3, h4, h5, h6⟩
          unfold resOf
          simp only [h5 _ _ _ ha, hT.ld _ _ hl, h2, h6 _ _ _ hst, hcs]
        · exact h.elim
      · exact h.elim
    · exact h.elim

/-- what a function comes to -/
def Rets (T : Tab) (rs : List ResultVar) (res : List DV) : Post
  | .normal, env, st => retK T rs env st fun ds => AsLe ds res
  | .ret, env, st => retK T rs env st fun ds => AsLe ds res
  | _, _, _ => False

/-- results that are data, in slots -/
def retD (env : Env) : List ResultVar → Option (List DV)
  | [] => some []
  | .tmp t :: r => match env t, retD env r with
    | .v d, some ds => some (d :: ds)
    | _, _ => none
  | _ => none

def onlyData (env : Env) : Env := fun t => match env t with | .v d => .v d | _ => .junk

theorem retD_res {P : Program} {env : Env} {st : List AO} : ∀ {rs : List ResultVar} {ds : List DV}, retD env rs = some ds → resOf P (onlyData env) st rs = some ds
  | [], ds, h => by cases h; rfl
  | .tmp t :: r, ds, h => by
    unfold retD at h
    split at h
    · rename_i d ds' h1 h2
      cases h
      unfold resOf
      have : onlyData env t = .v d := by simp [onlyData, h1]
      simp only [this, retD_res h2]
    · cases h
  | .cell _ _ :: r, ds, h => by simp [retD] at h

/-- what a function comes to that turns own things -/
def RetsE (rs : List ResultVar) (res : List DV) (st' : List AO) : Post
  | .normal, env, st => st.take st'.length = st' ∧ (st'.all (objBelow st'.length)) = true ∧ ∃ ds, retD env rs = some ds ∧ AsLe ds res
  | .ret, env, st => st.take st'.length = st' ∧ (st'.all (objBelow st'.length)) = true ∧ ∃ ds, retD env rs = some ds ∧ AsLe ds res
  | _, _, _ => False

theorem eff_vc {P : Program} {f : FuncId} {fn : Func} {n : Nat} {c : Code} {args : List AV} {st st' : List AO} {res : List DV} (hf : P.funcs[f]? = some fn) (hN : fn.ntmps = n) (hb : fn.body = some c) (hn : args.length ≤ n)
    (hlen : st.length = st'.length) (h : WP P ⟨n, st.length⟩ c (argsE args) st (RetsE fn.results.toList res st')) : Eff P f args st res st' := by
  subst hN
  refine eff_of_le (Le := fun ds s => s = st' ∧ AsLe ds res) (fun ds s hl => ⟨hl.1, fun σ u => hl.2.res⟩) hf hb hn ?_
  intro w0 σ0 I a w hr
  refine wp_mono (h w0 σ0 I a w hr) fun e a' w' q => ?_
  have key : ∀ env s, Rel ⟨fn.ntmps, st.length⟩ w0 σ0 I env s a' w' → (s.take st'.length = st' ∧ (st'.all (objBelow st'.length)) = true ∧ ∃ ds, retD env fn.results.toList = some ds ∧ AsLe ds res) →
      ∃ env s, Rel ⟨fn.ntmps, st.length⟩ w0 σ0 I env s a' w' ∧ ∃ ds, (s = st' ∧ AsLe ds res) ∧ resOf P env s fn.results.toList = some ds := by
    intro env s ⟨h1, h2, hI, σ, gh, hbase, hk, he⟩ ⟨h4, h5, ds, h6, h7⟩
    have hb' := hbase.take st'.length (by rw [h4]; exact h5)
    rw [h4] at hb'
    refine ⟨onlyData env, st', ⟨h1, h2, hI, σ, gh.take st'.length, hb', fun v b hv => ?_, fun t => ?_⟩, ds, ⟨rfl, h7⟩, retD_res h6⟩
    · have hle : I.gh.length ≤ st'.length := by rw [hI]; simp [hlen]
      have := (hk v b hv).take (belowN_of hv hle)
      rwa [h4] at this
    · unfold onlyData
      split
      · rename_i d hd
        have := he t
        rw [hd] at this
        exact this
      · trivial
  cases e with
  | normal => obtain ⟨env, st, h1, h2⟩ := q; exact key env st h1 h2
  | ret => obtain ⟨env, st, h1, h2⟩ := q; exact key env st h1 h2
  | exit _ => obtain ⟨env, st, h1, h2⟩ := q; exact (h2 : False).elim
  | goto _ => obtain ⟨env, st, h1, h2⟩ := q; exact (h2 : False).elim
  | panic _ => exact q
  | outgrown => exact q

/-- .. and leaves just these own things -/
def RetsE0 (rs : List ResultVar) (res : List DV) (st' : List AO) : Post
  | .normal, env, st => st = st' ∧ ∃ ds, retD env rs = some ds ∧ AsLe ds res
  | .ret, env, st => st = st' ∧ ∃ ds, retD env rs = some ds ∧ AsLe ds res
  | _, _, _ => False

theorem eff_vc0 {P : Program} {f : FuncId} {fn : Func} {n : Nat} {c : Code} {args : List AV} {st st' : List AO} {res : List DV} (hf : P.funcs[f]? = some fn) (hN : fn.ntmps = n) (hb : fn.body = some c) (hn : args.length ≤ n)
    (h : WP P ⟨n, st.length⟩ c (argsE args) st (RetsE0 fn.results.toList res st')) : Eff P f args st res st' := by
  subst hN
  refine eff_of_le (Le := fun ds s => s = st' ∧ AsLe ds res) (fun ds s hl => ⟨hl.1, fun σ u => hl.2.res⟩) hf hb hn ?_
  intro w0 σ0 I a w hr
  refine wp_mono (h w0 σ0 I a w hr) fun e a' w' q => ?_
  have key : ∀ env s, Rel ⟨fn.ntmps, st.length⟩ w0 σ0 I env s a' w' → (s = st' ∧ ∃ ds, retD env fn.results.toList = some ds ∧ AsLe ds res) →
      ∃ env s, Rel ⟨fn.ntmps, st.length⟩ w0 σ0 I env s a' w' ∧ ∃ ds, (s = st' ∧ AsLe ds res) ∧ resOf P env s fn.results.toList = some ds := by
    intro env s ⟨h1, h2, hI, σ, gh, hbase, hk, he⟩ ⟨rfl, ds, h6, h7⟩
    refine ⟨onlyData env, s, ⟨h1, h2, hI, σ, gh, hbase, hk, fun t => ?_⟩, ds, ⟨rfl, h7⟩, retD_res h6⟩
    unfold onlyData
    split
    · rename_i d hd
      have := he t
      rw [hd] at this
      exact this
    · trivial
  cases e with
  | normal => obtain ⟨env, st, h1, h2⟩ := q; exact key env st h1 h2
  | ret => obtain ⟨env, st, h1, h2⟩ := q; exact key env st h1 h2
  | exit _ => obtain ⟨env, st, h1, h2⟩ := q; exact (h2 : False).elim
  | goto _ => obtain ⟨env, st, h1, h2⟩ := q; exact (h2 : False).elim
  | panic _ => exact q
  | outgrown => exact q

section
variable {P : Program} {T : Tab} (hT : TabOk P T)
include hT

theorem impl_vc {f : FuncId} {fn : Func} {n : Nat} {c : Code} {args res : List DV} (hf : P.funcs[f]? = some fn) (hN : fn.ntmps = n) (hb : fn.body = some c) (hn : args.length ≤ n)
    (h : WP P ⟨n, 0⟩ c (argsE (args.map AV.v)) [] (Rets T fn.results.toList res)) : Impl P f args res := by
  subst hN
  refine impl_of_le (Le := fun ds => AsLe ds res) (fun ds hl σ u => hl.res) hf hb hn ?_
  intro w0 σ0 I a w hr
  refine wp_mono (h w0 σ0 I a w hr) fun e a' w' q => ?_
  have key : ∀ env st, Rel ⟨fn.ntmps, 0⟩ w0 σ0 I env st a' w' → retK T fn.results.toList env st (fun ds => AsLe ds res) → ∃ env st, Rel ⟨fn.ntmps, 0⟩ w0 σ0 I env st a' w' ∧ ∃ ds, AsLe ds res ∧ resOf P env st fn.results.toList = some ds := by
    intro env st h1 h2
    obtain ⟨env', st', ds, h3, h4, h5, _⟩ := retK_sound (N := ⟨fn.ntmps, 0⟩) hT h2
    exact ⟨env', st', h3 _ _ _ _ _ h1, ds, h5, h4⟩
  cases e with
  | normal => obtain ⟨env, st, h1, h2⟩ := q; exact key env st h1 h2
  | ret => obtain ⟨env, st, h1, h2⟩ := q; exact key env st h1 h2
  | exit _ => obtain ⟨env, st, h1, h2⟩ := q; exact (h2 : False).elim
  | goto _ => obtain ⟨env, st, h1, h2⟩ := q; exact (h2 : False).elim
  | panic _ => exact q
  | outgrown => exact q

end
end Go.Proofs.Nw.K
end
section
/- K18: tables as lists. -/
open Go Go.RowKit
set_option linter.unusedVariables false
namespace Go.Proofs.Nw.K
universe u
def lk {β : Type u} : List (Nat × β) → Nat → Option β
  | [], _ => none
  | (k, v) :: r, t => bif Nat.beq k t then some v else lk r t

theorem lk_all {β : Type u} {p : Nat → β → Prop} : ∀ {l : List (Nat × β)}, (∀ x ∈ l, p x.1 x.2) → ∀ t x, lk l t = some x → p t x
  | [], _, t, x, h => by cases h
  | (k, v) :: r, ha, t, x, h => by
    unfold lk at h
    cases hb : Nat.beq k t with
    | true =>
      rw [hb] at h
      simp only [cond_true, Option.some.injEq] at h
      have e : k = t := Nat.eq_of_beq_eq_true hb
      subst e h
      exact ha (k, v) (by simp)
    | false =>
      rw [hb] at h
      simp only [cond_false] at h
      exact lk_all (fun x hx => ha x (by simp [hx])) t x h

theorem all_nil {β : Type u} {p : Nat × β → Prop} : ∀ x ∈ ([] : List (Nat × β)), p x := fun x h => by cases h
theorem all_cons {β : Type u} {p : Nat × β → Prop} {a : Nat × β} {l : List (Nat × β)} (h : p a) (k : ∀ x ∈ l, p x) : ∀ x ∈ a :: l, p x := fun x hx => by
  rcases List.mem_cons.1 hx with rfl | hx
  · exact h
  · exact k x hx

def mkTab (ld : List (Nat × (Nat × Bool))) (fo : List (Nat × List (Nat × Nat))) (el : List (Nat × (Nat × Nat))) (ap : List (Nat × (Nat × Nat × Nat))) (kd : List (Nat × TK)) (zb : List (Nat × List AV)) (zd : List (Nat × List D))
    (bt : List (Nat × List (Nat × Nat))) (ss : List (Nat × Nat)) (cl : List (Nat × Unit)) (by_ : List (Nat × Nat)) (cv : List (Nat × List (Nat × (Nat × Nat)))) (ei : List (Nat × Unit)) (pt : List (Nat × Unit)) : Tab where
  ld := lk ld
  fo := fun t f => match lk fo t with | some r => lk r f | none => none
  el := lk el
  ap := lk ap
  kd := fun t => match lk kd t with | some k => k | none => .other
  zb := lk zb
  zd := lk zd
  bt := lk bt
  ss := lk ss
  cl := fun f => (lk cl f).isSome
  bb := lk by_
  cv := fun t f => match lk cv t with | some r => lk r f | none => none
  ei := fun f => (lk ei f).isSome
  pt := fun f => (lk pt f).isSome

def kdOf (P : Program) (t : TypeId) : TK :=
  match P.underlying t with
  | some (.int k) => .int k
  | some .string => .str
  | some .bool => .bool
  | some (.slice e) => .slice e
  | _ => .other

theorem kdOf_int {P : Program} {t : TypeId} {k : IntKind} (h : kdOf P t = .int k) : P.underlying t = some (.int k) := by
  unfold kdOf at h
  split at h <;> first | (cases h; assumption) | cases h
theorem kdOf_str {P : Program} {t : TypeId} (h : kdOf P t = .str) : P.underlying t = some .string := by
  unfold kdOf at h
  split at h <;> first | assumption | cases h
theorem kdOf_bool {P : Program} {t : TypeId} (h : kdOf P t = .bool) : P.underlying t = some .bool := by
  unfold kdOf at h
  split at h <;> first | assumption | cases h
theorem kdOf_slice {P : Program} {t e : TypeId} (h : kdOf P t = .slice e) : P.underlying t = some (.slice e) := by
  unfold kdOf at h
  split at h <;> first | (cases h; assumption) | cases h

theorem mkTab_ok {P : Program} {ld : List (Nat × (Nat × Bool))} {fo : List (Nat × List (Nat × Nat))} {el : List (Nat × (Nat × Nat))} {ap : List (Nat × (Nat × Nat × Nat))} {kd : List (Nat × TK)} {zb : List (Nat × List AV)} {zd : List (Nat × List D)}
    {bt : List (Nat × List (Nat × Nat))} {ss : List (Nat × Nat)} {cl : List (Nat × Unit)} {by_ : List (Nat × Nat)} {cv : List (Nat × List (Nat × (Nat × Nat)))} {ei : List (Nat × Unit)} {pt : List (Nat × Unit)} (h1 : ∀ x ∈ ld, ldT P x.1 = some x.2) (h2 : ∀ x ∈ fo, ∀ y ∈ x.2, fieldOff P x.1 y.1 = some y.2) (h3 : ∀ x ∈ el, elT P x.1 = some x.2) (h4 : ∀ x ∈ ap, appT P x.1 = some x.2)
    (h5 : ∀ x ∈ kd, kdOf P x.1 = x.2) (h6 : ∀ x ∈ zb, zeroOf P x.1 = some x.2) (h7 : ∀ x ∈ zd, zeroD P x.1 = some x.2) (h8 : ∀ x ∈ bt, buildT P x.1 = some x.2) (h9 : ∀ x ∈ ss, strStruct P x.1 = some x.2)
    (h10 : ∀ x ∈ cl, callable P x.1 = true) (h12 : ∀ x ∈ by_, byteT P x.1 = some x.2) (h13 : ∀ x ∈ cv, ∀ y ∈ x.2, CvOk P x.1 y.1 y.2.1 y.2.2) (h14 : ∀ x ∈ ei, IdFn P x.1) (h15 : ∀ x ∈ pt, ptrT P x.1 = true) (h11 : P.follows .mixedOrders = true) : TabOk P (mkTab ld fo el ap kd zb zd bt ss cl by_ cv ei pt) := by
  have hk : ∀ t k, (mkTab ld fo el ap kd zb zd bt ss cl by_ cv ei pt).kd t = k → k ≠ .other → kdOf P t = k := by
    intro t k h hne
    simp only [mkTab] at h
    split at h
    · rename_i k' hk'; subst h; exact lk_all (p := fun t k => kdOf P t = k) h5 t _ hk'
    · exact absurd h.symm hne
  exact {
    ld := fun t x h => by simp only [mkTab] at h; exact lk_all (p := fun t x => ldT P t = some x) h1 t x h
    fo := fun t f x h => by
      simp only [mkTab] at h
      split at h
      · rename_i r hr
        have := lk_all (p := fun t (r : List (Nat × Nat)) => ∀ y ∈ r, fieldOff P t y.1 = some y.2) h2 t r hr
        exact lk_all (p := fun f x => fieldOff P t f = some x) this f x h
      · cases h
    el := fun t x h => by simp only [mkTab] at h; exact lk_all (p := fun t x => elT P t = some x) h3 t x h
    ap := fun t x h => by simp only [mkTab] at h; exact lk_all (p := fun t x => appT P t = some x) h4 t x h
    kint := fun t k h => kdOf_int (hk t _ h (by intro e; cases e))
    kstr := fun t h => kdOf_str (hk t _ h (by intro e; cases e))
    kbool := fun t h => kdOf_bool (hk t _ h (by intro e; cases e))
    kslice := fun t e h => kdOf_slice (hk t _ h (by intro e; cases e))
    zb := fun t x h => by simp only [mkTab] at h; exact lk_all (p := fun t x => zeroOf P t = some x) h6 t x h
    zd := fun t x h => by simp only [mkTab] at h; exact lk_all (p := fun t x => zeroD P t = some x) h7 t x h
    bt := fun t x h => by simp only [mkTab] at h; exact lk_all (p := fun t x => buildT P t = some x) h8 t x h
    ss := fun t x h => by simp only [mkTab] at h; exact lk_all (p := fun t x => strStruct P t = some x) h9 t x h
    cl := fun f h => by
      simp only [mkTab] at h
      cases hc : lk cl f with
      | none => simp [hc] at h
      | some x => exact lk_all (p := fun f _ => callable P f = true) h10 f x hc
    bb := fun t x h => by simp only [mkTab] at h; exact lk_all (p := fun t x => byteT P t = some x) h12 t x h
    cv := fun s d b n h => by
      simp only [mkTab] at h
      split at h
      · rename_i r hr
        have := lk_all (p := fun t (r : List (Nat × (Nat × Nat))) => ∀ y ∈ r, CvOk P t y.1 y.2.1 y.2.2) h13 s r hr
        exact lk_all (p := fun f (x : Nat × Nat) => CvOk P s f x.1 x.2) this d (b, n) h
      · cases h
    ei := fun f h => by
      simp only [mkTab] at h
      cases hc : lk ei f with
      | none => simp [hc] at h
      | some x => exact lk_all (p := fun f _ => IdFn P f) h14 f x hc
    pt := fun f h => by
      simp only [mkTab] at h
      cases hc : lk pt f with
      | none => simp [hc] at h
      | some x => exact lk_all (p := fun f _ => ptrT P f = true) h15 f x hc
    mixed := h11 }

end Go.Proofs.Nw.K
end
section
/- K19: what a row hands in, read as data. -/
open Go Go.RowKit
set_option linter.unusedVariables false
set_option linter.unusedSimpArgs false
namespace Go.Proofs.Nw.K

def sigOf (w : World) : Sig where
  cell b o := (w.cell? ⟨b, o, none⟩).filter (·.oneCell')
  obj r := match w.heap[r]? with | some (.map es c) => some (.map es c) | _ => none

theorem sigOf_sealed (w : World) : Sealed (sigOf w) w where
  cell b o v h := by
    simp only [sigOf, Option.filter_eq_some_iff] at h
    exact h
  obj r o h := by
    simp only [sigOf] at h
    split at h
    · rename_i es c he; cases h; exact he
    · cases h

theorem sigOf_cell {w : World} {b o : Nat} {v : Value} (h : w.cell? ⟨b, o, none⟩ = some v) (h1 : v.oneCell' = true) : (sigOf w).cell b o = some v := by
  simp [sigOf, h, h1]

mutual
def bulk {H : Type} : DataW H → Nat
  | .lit (.string bytes) => bytes.length + 1
  | .lit _ => 1
  | .nil => 1
  | .ptr d => bulk d + 1
  | .slice elems spare => bulkAll elems + bulkAll spare + 1
  | .agg parts => bulkAll parts + 1
  | .iface _ d => bulk d + 1
  | .map entries => bulkEntries entries + 1
  | .held _ => 1
def bulkAll {H : Type} : List (DataW H) → Nat
  | [] => 0
  | d :: r => bulk d + bulkAll r
def bulkEntries {H : Type} : List (Lit × DataW H) → Nat
  | [] => 0
  | x :: r => bulkEntry x + bulkEntries r
def bulkEntry {H : Type} : Lit × DataW H → Nat
  | (.string bytes, d) => bytes.length + bulk d + 1
  | (_, d) => bulk d + 1
end

/-- what lies in cells that read as a type's: a datum, with its weight and what is known of it -/
structure Opens (P : Program) (t : TypeId) {α : Type} (enc : α → List D) (wt : α → Nat) (ok : α → Prop) : Prop where
  of : ∀ {H : Type} {e : TypeId × Value → H} {w : World} {base : Nat} {sp : Nat → Bool} {fuel : Nat} {cs : List Value} {x : DataW H × List MemPlace},
    DataW.trod e P w base sp true fuel t cs = some x → ∃ a, RepL (sigOf w) cs (enc a) ∧ (∀ c ∈ cs, c.oneCell' = true) ∧ wt a ≤ bulk x.1 ∧ ok a

theorem RepL.single {σ : Sig} {v : Value} {d : D} (h : Rep σ v d) : RepL σ [v] [d] :=
  ⟨rfl, fun i v' d' h1 h2 => by
    cases i with
    | zero => simp at h1 h2; subst h1 h2; exact h
    | succ i => simp at h1⟩

theorem RepL.append {σ : Sig} {vs vs' : List Value} {ds ds' : List D} (h : RepL σ vs ds) (k : RepL σ vs' ds') : RepL σ (vs ++ vs') (ds ++ ds') := by
  refine ⟨by simp [h.1, k.1], fun i v d h1 h2 => ?_⟩
  by_cases hi : i < vs.length
  · rw [List.getElem?_append_left hi] at h1
    rw [List.getElem?_append_left (by rw [← h.1]; exact hi)] at h2
    exact h.2 i v d h1 h2
  · rw [List.getElem?_append_right (by omega)] at h1
    rw [List.getElem?_append_right (by rw [← h.1]; omega), ← h.1] at h2
    exact k.2 _ v d h1 h2

variable {P : Program} {t : TypeId}

theorem opens_bool (ht : P.underlying t = some .bool) : Opens P t (fun b : Bool => [.sc (.bool b)]) (fun _ => 1) (fun _ => True) := by
  refine ⟨?_⟩
  intro H e w base sp fuel cs x h
  obtain ⟨b, rfl, rfl⟩ := DataW.trod_bool ht h
  exact ⟨b, .single (.sc rfl), by simp [Value.oneCell'], by simp [bulk], trivial⟩

theorem opens_int {k : IntKind} (ht : P.underlying t = some (.int k)) : Opens P t (fun n : Int => [.sc (.int k n)]) (fun _ => 1) (fun n => (Lit.int k n).wf = true) := by
  refine ⟨?_⟩
  intro H e w base sp fuel cs x h
  obtain ⟨n, rfl, rfl, hw⟩ := DataW.trod_int ht h
  exact ⟨n, .single (.sc rfl), by simp [Value.oneCell'], by simp [bulk], hw⟩

theorem opens_string (ht : P.underlying t = some .string) : Opens P t (fun s : ByteArray => [.sc (.string s)]) (fun s => s.size + 1) (fun s => s.size ≤ maxLen) := by
  refine ⟨?_⟩
  intro H e w base sp fuel cs x h
  obtain ⟨s, rfl, rfl, hw⟩ := DataW.trod_string ht h
  refine ⟨s, .single (.sc rfl), by simp [Value.oneCell'], ?_, hw⟩
  simp only [bulk, Array.length_toList, ByteArray.size]; exact Nat.le_refl _

theorem bulkAll_sum {H : Type} : ∀ (ds : List (DataW H)), bulkAll ds = (ds.map bulk).sum
  | [] => by simp [bulkAll]
  | d :: r => by simp [bulkAll, bulkAll_sum r]

universe u
/-- for each place one, all together -/
theorem choose_list {α : Type u} {p : Nat → α → Prop} : ∀ (n : Nat), (∀ i, i < n → ∃ a, p i a) → ∃ xs : List α, xs.length = n ∧ ∀ (i : Nat) a, xs[i]? = some a → p i a
  | 0, _ => ⟨[], rfl, fun i a h => by simp at h⟩
  | n + 1, h => by
    obtain ⟨xs, h1, h2⟩ := choose_list n fun i hi => h i (by omega)
    obtain ⟨a, ha⟩ := h n (by omega)
    refine ⟨xs ++ [a], by simp [h1], fun i b hb => ?_⟩
    by_cases hi : i < xs.length
    · rw [List.getElem?_append_left hi] at hb; exact h2 i b hb
    · rw [List.getElem?_append_right (by omega)] at hb
      have : i = n := by
        have := (List.getElem?_eq_some_iff.1 hb).1
        simp at this; omega
      subst this
      simp [h1] at hb; subst hb; exact ha

theorem sum_le_sum : ∀ {xs ys : List Nat}, xs.length = ys.length → (∀ (i : Nat) a b, xs[i]? = some a → ys[i]? = some b → a ≤ b) → xs.sum ≤ ys.sum
  | [], [], _, _ => by simp
  | x :: xs, y :: ys, hl, h => by
    have h0 := h 0 x y rfl rfl
    have ih := sum_le_sum (xs := xs) (ys := ys) (by simpa using hl) fun i a b ha hb => h (i + 1) a b (by simpa using ha) (by simpa using hb)
    simp; omega
  | [], _ :: _, hl, _ => by simp at hl
  | _ :: _, [], hl, _ => by simp at hl

theorem add_none (b o i : Nat) : (⟨b, o, none⟩ : Addr).add i = ⟨b, o + i, none⟩ := by
  unfold Addr.add
  split
  · rename_i h; simp_all
  · rfl

theorem opens_rows {e : TypeId} {sz : Nat} {α : Type} {enc : α → List D} {wt : α → Nat} {ok : α → Prop} (ht : P.underlying t = some (.slice e)) (hsz : P.cellsOf e = sz) (hpos : 0 < sz) (he : Opens P e enc wt ok) :
    Opens P t (fun xs : List α => [.list sz (xs.map enc)]) (fun xs => (xs.map wt).sum + 1) (fun xs => xs.length ≤ maxLen ∧ ∀ x ∈ xs, ok x) := by
  refine ⟨?_⟩
  intro H en w base sp fuel cs x h
  rcases DataW.trod_slice ht h with ⟨rfl, rfl⟩ | ⟨a, len, cap, elems, rest, n, _, rfl, rfl, hb, hl, hm, hlen, hel, hsp, hns⟩
  · exact ⟨[], .single (.nil (by simp [maxLen])), by simp [Value.oneCell'], by simp [bulk], by simp [maxLen], by simp⟩
  obtain ⟨xs, hx1, hx2⟩ := choose_list (p := fun i (c : α × List Value) => ∃ y, w.cells? base (a.add (i * P.cellsOf e)) (P.cellsOf e) = some c.2 ∧ elems[i]? = some y ∧
      RepL (sigOf w) c.2 (enc c.1) ∧ (∀ v ∈ c.2, v.oneCell' = true) ∧ wt c.1 ≤ bulk y.1 ∧ ok c.1) len (fun i hi => by
    have := hel i hi
    have hlt : i < elems.length := by omega
    rw [List.getElem?_eq_getElem hlt] at this
    simp only [Option.bind_eq_some_iff] at this
    obtain ⟨cs, h1, h2⟩ := this
    obtain ⟨a, h3, h4, h5, h6⟩ := he.of h2
    exact ⟨(a, cs), _, h1, List.getElem?_eq_getElem hlt, h3, h4, h5, h6⟩)
  refine ⟨xs.map (·.1), .single ?_, by simp [Value.oneCell'], ?_, by simp [hx1]; omega, ?_⟩
  · by_cases h0 : len = 0
    · subst h0
      have : xs = [] := by simpa using hx1
      subst this
      exact .nil hm
    subst hsz
    have hget : ∀ (i : Nat), i < len → ∃ c, xs[i]? = some c := fun i hi => ⟨xs[i], List.getElem?_eq_getElem (by omega)⟩
    have hspot : a.spot = none := by
      obtain ⟨c, hc⟩ := hget 0 (by omega)
      obtain ⟨y, h1, _⟩ := hx2 0 c hc
      obtain ⟨_, h3, h4⟩ := World.cells?_some h1
      have := h4 0 (by omega)
      have hs : 0 < c.2.length := by omega
      rw [List.getElem?_eq_getElem hs] at this
      simp only [World.cell?] at this
      split at this
      · split at this
        · cases this
        · rename_i hne
          cases hsp : a.spot with
          | none => rfl
          | some z => simp [Addr.add, hsp] at hne
      · cases this
    · obtain ⟨ab, ao, asp⟩ := a
      simp only at hspot; subst hspot
      refine .list (fun i j => ((xs[i]?.bind fun c => c.2[j]?).getD undef)) (by simp [hx1]) (by omega) hl hm ?_ ?_ ?_
      · intro i d hd
        simp only [List.getElem?_map, Option.map_eq_some_iff] at hd
        obtain ⟨a, ⟨c, hc, rfl⟩, rfl⟩ := hd
        obtain ⟨y, h1, _, h3, _⟩ := hx2 i c hc
        obtain ⟨_, h5, _⟩ := World.cells?_some h1
        rw [← h3.1, h5]
      · intro i j hi hj
        obtain ⟨c, hc⟩ := hget i hi
        obtain ⟨y, h1, _, h3, h4, _⟩ := hx2 i c hc
        obtain ⟨_, h5, h6⟩ := World.cells?_some h1
        have := h6 j hj
        have hlt : j < c.2.length := by omega
        rw [List.getElem?_eq_getElem hlt] at this
        simp only [hc, Option.bind_some, List.getElem?_eq_getElem hlt, Option.getD_some]
        exact sigOf_cell (by simpa only [add_none] using this) (h4 _ (List.getElem_mem _))
      · intro i j d1 d hd1 hd
        simp only [List.getElem?_map, Option.map_eq_some_iff] at hd1
        obtain ⟨a, ⟨c, hc, rfl⟩, rfl⟩ := hd1
        obtain ⟨y, h1, _, h3, _⟩ := hx2 i c hc
        have hlt : j < c.2.length := by rw [h3.1]; exact (List.getElem?_eq_some_iff.1 hd).1
        simp only [hc, Option.bind_some, List.getElem?_eq_getElem hlt, Option.getD_some]
        exact h3.2 j _ d (List.getElem?_eq_getElem hlt) hd
  · simp only [bulk]
    have : ((xs.map (·.1)).map wt).sum ≤ ((elems.map (·.1)).map bulk).sum := by
      refine sum_le_sum (by simp [hx1, hlen]) fun i a b ha hb => ?_
      simp only [List.getElem?_map, Option.map_eq_some_iff] at ha hb
      obtain ⟨_, ⟨c, hc, rfl⟩, rfl⟩ := ha
      obtain ⟨_, ⟨y, hy, rfl⟩, rfl⟩ := hb
      obtain ⟨y', _, h2, _, _, h5, _⟩ := hx2 i c hc
      rw [hy] at h2; cases h2
      exact h5
    rw [bulkAll_sum, bulkAll_sum]; omega
  · intro a ha
    simp only [List.mem_map] at ha
    obtain ⟨c, hc, rfl⟩ := ha
    obtain ⟨i, hi⟩ := List.getElem?_of_mem hc
    obtain ⟨_, _, _, _, _, _, h6⟩ := hx2 i c hi
    exact h6

theorem opens_slice {e : TypeId} {sz : Nat} {α : Type} {enc : α → List D} {wt : α → Nat} {ok : α → Prop} (z : α) (ht : P.underlying t = some (.slice e)) (hsz : P.cellsOf e = sz) (hpos : 0 < sz) (he : Opens P e enc wt ok) :
    Opens P t (fun xs : List α => [.tl α sz enc z xs]) (fun xs => (xs.map wt).sum + 1) (fun xs => xs.length ≤ maxLen ∧ ∀ x ∈ xs, ok x) := by
  refine ⟨?_⟩
  intro H en w base sp fuel cs x h
  obtain ⟨xs, h1, h2, h3, h4⟩ := (opens_rows ht hsz hpos he).of h
  obtain ⟨hl, hr⟩ := h1
  refine ⟨xs, ⟨hl, fun i v d hv hd => ?_⟩, h2, h3, h4⟩
  cases i with
  | zero => simp at hd; subst hd; exact .tl (hr 0 v _ hv rfl)
  | succ i => simp at hd

/-- the fields of a struct, from one on -/
structure OpensF (P : Program) (fs : List Field) (lo hi : Nat) {α : Type} (enc : α → List D) (wt : α → Nat) (ok : α → Prop) : Prop where
  of : ∀ {H : Type} {e : TypeId × Value → H} {w : World} {base : Nat} {sp : Nat → Bool} {fuel : Nat} {cs : List Value} {xs : List (DataW H × List MemPlace)}, cs.length = hi → xs.length = fs.length →
    (∀ (i : Nat) (f : Field), fs[i]? = some f → DataW.trod e P w base sp true fuel f.type ((cs.drop f.offset).take (P.cellsOf f.type)) = xs[i]?) →
    ∃ a, RepL (sigOf w) (cs.drop lo) (enc a) ∧ (∀ c ∈ cs.drop lo, c.oneCell' = true) ∧ wt a ≤ ((xs.map (·.1)).map bulk).sum ∧ ok a

theorem opensF_nil {hi : Nat} : OpensF P [] hi hi (fun _ : Unit => []) (fun _ => 0) (fun _ => True) := by
  refine ⟨?_⟩
  intro H e w base sp fuel cs xs hl hx h
  have : cs.drop hi = [] := by simp [← hl]
  rw [this]
  exact ⟨(), ⟨rfl, fun i v d h => by simp at h⟩, by simp, by simp, trivial⟩

theorem opensF_cons {f : Field} {fs : List Field} {lo hi k : Nat} {α β : Type} {enc : α → List D} {wt : α → Nat} {ok : α → Prop} {enc' : β → List D} {wt' : β → Nat} {ok' : β → Prop} (ho : f.offset = lo) (hk : P.cellsOf f.type = k)
    (h : Opens P f.type enc wt ok) (hr : OpensF P fs (lo + k) hi enc' wt' ok') : OpensF P (f :: fs) lo hi (fun p : α × β => enc p.1 ++ enc' p.2) (fun p => wt p.1 + wt' p.2) (fun p => ok p.1 ∧ ok' p.2) := by
  refine ⟨?_⟩
  intro H e w base sp fuel cs xs hl hx hall
  subst ho hk
  cases xs with
  | nil => simp at hx
  | cons x xs =>
    have h0 := hall 0 f rfl
    obtain ⟨a, a1, a2, a3, a4⟩ := h.of h0
    obtain ⟨b, b1, b2, b3, b4⟩ := hr.of (cs := cs) (xs := xs) hl (by simpa using hx) fun i g hg => by simpa using hall (i + 1) g (by simpa using hg)
    have hs : cs.drop f.offset = (cs.drop f.offset).take (P.cellsOf f.type) ++ cs.drop (f.offset + P.cellsOf f.type) := by
      rw [← List.drop_drop, List.take_append_drop]
    refine ⟨(a, b), ?_, ?_, by simp only [List.map_cons, List.sum_cons]; omega, a4, b4⟩
    · rw [hs]; exact a1.append b1
    · rw [hs]; intro c hc
      rcases List.mem_append.1 hc with hc | hc
      · exact a2 c hc
      · exact b2 c hc

theorem opens_struct {fs : Array Field} {hi : Nat} {α : Type} {enc : α → List D} {wt : α → Nat} {ok : α → Prop} (ht : P.underlying t = some (.struct fs)) (hh : P.cellsOf t = hi) (h : OpensF P fs.toList 0 hi enc wt ok) :
    Opens P t enc (fun a => wt a + 1) ok := by
  refine ⟨?_⟩
  intro H e w base sp fuel cs x hx
  obtain ⟨xs, n, rfl, rfl, hl, hxl, hall⟩ := DataW.trod_struct ht hx
  obtain ⟨a, a1, a2, a3, a4⟩ := h.of (cs := cs) (xs := xs) (by rw [hl, hh]) (by simpa using hxl) fun i f hf => hall i f (by simpa using hf)
  exact ⟨a, by simpa using a1, by simpa using a2, by simp only [bulk, bulkAll_sum]; omega, a4⟩

theorem Opens.map {α β : Type} {enc : α → List D} {wt : α → Nat} {ok : α → Prop} {enc' : β → List D} {wt' : β → Nat} {ok' : β → Prop} (h : Opens P t enc wt ok) (f : α → β) (h1 : ∀ a, enc' (f a) = enc a) (h2 : ∀ a, wt' (f a) ≤ wt a) (h3 : ∀ a, ok a → ok' (f a)) :
    Opens P t enc' wt' ok' := by
  refine ⟨?_⟩
  intro H e w base sp fuel cs x hx
  obtain ⟨a, a1, a2, a3, a4⟩ := h.of hx
  exact ⟨f a, by rw [h1]; exact a1, a2, Nat.le_trans (h2 a) a3, h3 a a4⟩

/-- one argument, read -/
theorem Opens.arg {H : Type} {en : TypeId × Value → H} {w : World} {base : Nat} {sp : Nat → Bool} {v : Value} {d : DataW H} {ps : List MemPlace} {α : Type} {enc : α → List D} {wt : α → Nat} {ok : α → Prop} (h : Opens P t enc wt ok)
    (hd : DataW.Trod en P w base sp true t v d ps) : ∃ a, RepL (sigOf w) v.cells.toList (enc a) ∧ wt a ≤ bulk d ∧ ok a := by
  obtain ⟨fuel, hf⟩ := hd
  obtain ⟨a, h1, _, h3, h4⟩ := h.of hf
  exact ⟨a, h1, h3, h4⟩

theorem RepL.to_one {σ : Sig} {v : Value} {d : D} (h : RepL σ [v] [d]) : RepV σ v (.one d) := h.2 0 v d rfl rfl
theorem RepL.to_agg {σ : Sig} {cs : Array Value} {ds : List D} (h : RepL σ cs.toList ds) : RepV σ (.agg cs) (.agg ds) := ⟨cs.toList, by simp, h⟩
theorem RepVs.nil {σ : Sig} : RepVs σ [] [] := ⟨rfl, fun i v d h => by simp at h⟩
theorem RepVs.cons {σ : Sig} {v : Value} {vs : List Value} {d : DV} {ds : List DV} (h : RepV σ v d) (k : RepVs σ vs ds) : RepVs σ (v :: vs) (d :: ds) :=
  ⟨by simp [k.1], fun i v' d' h1 h2 => by
    cases i with
    | zero => simp at h1 h2; subst h1 h2; exact h
    | succ i => simp at h1 h2; exact k.2 i v' d' h1 h2⟩

/-- a law's contract, called with what the row hands in -/
theorem Impl.law {f : FuncId} {args : List DV} (h : Impl P f args [.one (.sc (.bool true))]) {W : World} {vs : List Value} (hv : RepVs (sigOf W) vs args) :
    Calls P f vs.toArray W fun e W' => e = .returned (.bool true) ∧ Below W.heap.size W W' := by
  refine (h W (sigOf W) vs (sigOf_sealed W) hv).mono fun e w' ⟨u, σ', h1, h2, _, _, h5⟩ => ?_
  have h5 : Rep σ' u (.sc (.bool true)) := h5
  cases h5
  exact ⟨h1, h2⟩

end Go.Proofs.Nw.K
end
