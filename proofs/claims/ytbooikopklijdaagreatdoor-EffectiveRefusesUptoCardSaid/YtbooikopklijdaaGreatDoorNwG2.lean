/- Bundle 2: NwK8, NwK9, NwK10, NwK11, NwK12, NwK13, NwK14, NwK20, NwK23. -/
import Derived.Test.YtbooikopklijdaaGreatDoorNwG1
import Derived.ScopeJumps
import Derived.Still
import Derived.Laws.StructEq
import Derived.Lib.AppendStr
import Derived.Lib.Builder
import Derived.Laws.Pointers
import Derived.Laws.Externs
import Derived.MapKept
import Derived.Carry
set_option linter.constructorNameAsVariable false
set_option linter.unusedVariables false
set_option linter.unusedSimpArgs false
set_option linter.unusedSectionVars false
section
/- K8: sealing; structs and slices built from parts. -/
open Go Go.RowKit
namespace Go.Proofs.Nw.K
def Sig.shut (σ : Sig) (b : Nat) (vals : List Value) : Sig := { cell := fun b' o => if b' = b then vals[o]? else σ.cell b' o, obj := σ.obj }
theorem Sig.le_seal {σ : Sig} {b : Nat} (h : Uns σ b) (vals : List Value) : σ.le (σ.shut b vals) :=
  ⟨fun b' o v hv => by
    simp only [Sig.shut]
    split
    · rename_i e; subst e; rw [h.1] at hv; cases hv
    · exact hv, fun _ _ h => h⟩
theorem Uns.shut {σ : Sig} {b b' : Nat} (h : Uns σ b') (hne : b' ≠ b) (vals : List Value) : Uns (σ.shut b vals) b' :=
  ⟨fun o => by simp only [Sig.shut, if_neg hne]; exact h.1 o, h.2⟩
theorem ObjOk.sig {σ σ' : Sig} {gh st gh' st'} {B : Nat} {w : World} {g : Value} {o : AO} (h : ObjOk σ gh st B w g o) (hl : σ.le σ') (hu : ∀ b, blkOf g = some b → Uns σ b → Uns σ' b)
    (keep : ∀ v a, RepA σ gh st v a → RepA σ' gh' st' v a) : ObjOk σ' gh' st' B w g o := by
  cases o with
  | box bT cells =>
    obtain ⟨b, vals, h1, h2, h3, h4, h5, h6, h7⟩ := h
    exact ⟨b, vals, h1, h2, h3, h4, fun i v c a b => keep _ _ (h5 i v c a b), hu b (by simp [h1, blkOf]) h6, h7⟩
  | row k e sz xs =>
    obtain ⟨vals, h1, h2, h3, h4, h5⟩ := h
    exact ⟨vals, h1, h2, fun i j x d a b => let ⟨v, c1, c2⟩ := h3 i j x d a b; ⟨v, c1, c2.mono hl⟩, fun b hb => hu b hb (h4 b hb), h5⟩
  | mp es =>
    obtain ⟨r, entries, clock, h1, h2, h3, h4, h5, h6⟩ := h
    exact ⟨r, entries, clock, h1, h2, h3, h4, fun i k d a => let ⟨me, c1, c2, c3⟩ := h5 i k d a; ⟨me, c1, c2, keep _ _ c3⟩, hu r (by simp [h1, blkOf]) h6.1, h6.2⟩
  | brow e ns =>
    obtain ⟨b, vals, fz, h1, h2, h3, h4, h5, h6, h7⟩ := h
    exact ⟨b, vals, fz, h1, h2, h3, h4, h5, h6, hu b (by simp [h1, blkOf]) h7⟩
  | gone => trivial
theorem new_sealed {w0 : World} {σ0 σ gh st w} (hb : Base w0 σ0 σ gh st w) (vals : Array Value) (T : TypeId) (h1 : ∀ v ∈ vals, v.oneCell' = true) :
    Fut w0 σ0 σ gh st (σ.shut w.heap.size vals.toList) gh st (w.alloc (.cells vals T)) := by
  have hfr := hb.sl.fresh (Nat.le_refl _)
  have hle := Sig.le_seal hfr vals.toList
  have hg := World.grownBy_alloc w (.cells vals T) none
  have b' := hb.grown hg
  have keep : ∀ v a, RepA σ gh st v a → RepA (σ.shut w.heap.size vals.toList) gh st v a := fun v a h => h.sig hle
  refine ⟨⟨b'.below, fun b h => ?_, ⟨fun b o v hv => ?_, fun r o ho => ?_⟩, b'.len, b'.sep, b'.lt, fun s o g h1 h2 => ?_⟩, keep⟩
  · have : b ≠ w.heap.size := by have := hb.below.size; omega
    have := hb.ext b h
    exact ⟨by funext o; simp only [Sig.shut]; rw [if_neg ‹_›]; exact congrFun this.1 o, this.2⟩
  · simp only [Sig.shut] at hv
    split at hv
    · rename_i e; subst e
      refine ⟨?_, h1 v (by rw [← Array.mem_toList_iff]; exact List.mem_of_getElem? hv)⟩
      rw [World.cell?_alloc_new]; simpa using hv
    · exact b'.sl.cell b o v hv
  · exact b'.sl.obj r o ho
  · refine (b'.obj s o g h1 h2).sig hle (fun b hbk hu => hu.shut ?_ _) keep
    have := hb.lt s g b h2 hbk; omega
theorem seal_row {w0 : World} {σ0 σ gh st w} (hb : Base w0 σ0 σ gh st w) {s k e sz : Nat} {xs} (hst : st[s]? = some (.row k e sz xs)) {g : Value} (hg : gh[s]? = some g) :
    ∃ σ', Fut w0 σ0 σ gh st σ' gh (st.set s .gone) w ∧ Rep σ' g (.list sz xs) := by
  obtain ⟨vals, hown, hsz, hval, huns, hone⟩ := hb.obj s _ _ hst hg
  have keep0 : ∀ v a, RepA σ gh st v a → RepA σ gh (st.set s .gone) v a := fun v a h => h.set hst _ (fun _ _ _ _ h => by cases h)
  have hslt : s < st.length := (List.getElem?_eq_some_iff.1 hst).1
  rcases hown.2 with ⟨rfl, h0⟩ | ⟨b, cap, cur, rfl, hbb, hheap, hnc, hcm, hcs, htake⟩
  · refine ⟨σ, ⟨⟨hb.below, hb.ext, hb.sl, by simp [hb.len], hb.sep, hb.lt, fun t o1 g1 h1 h2 => ?_⟩, keep0⟩, ?_⟩
    · rw [List.getElem?_set] at h1
      split at h1
      · simp [hslt] at h1; subst h1; trivial
      · exact (hb.obj t o1 g1 h1 h2).sig (.refl σ) (fun _ _ h => h) keep0
    · have : xs = [] := List.eq_nil_of_length_eq_zero h0
      subst this
      exact .nil (by simp [maxLen])
  · have hu := huns b (by simp [blkOf])
    have hle := Sig.le_seal hu vals
    have keep : ∀ v a, RepA σ gh st v a → RepA (σ.shut b vals) gh (st.set s .gone) v a := fun v a h => (keep0 v a h).sig hle
    refine ⟨σ.shut b vals, ⟨⟨hb.below, fun b' h => ?_, ⟨fun b' o v hv => ?_, hb.sl.obj⟩, by simp [hb.len], hb.sep, hb.lt, fun t o1 g1 h1 h2 => ?_⟩, keep⟩, ?_⟩
    · have : b' ≠ b := by omega
      have := hb.ext b' h
      exact ⟨by funext o; simp only [Sig.shut]; rw [if_neg ‹_›]; exact congrFun this.1 o, this.2⟩
    · simp only [Sig.shut] at hv
      split at hv
      · rename_i e'; subst e'
        refine ⟨?_, hone v (List.mem_of_getElem? hv)⟩
        have := hown.cells (g := b') (by simp [Value.ownBlock]) o v hv
        rwa [add_lit, Nat.zero_add] at this
      · exact hb.sl.cell b' o v hv
    · rw [List.getElem?_set] at h1
      split at h1
      · simp [hslt] at h1; subst h1; trivial
      · rename_i hne
        refine (hb.obj t o1 g1 h1 h2).sig hle (fun b' hbk hu' => hu'.shut ?_ _) keep
        intro e'; subst e'
        exact hb.sep s t b' hne (by rw [hg]; simp [blkOf]) (by rw [h2]; exact hbk)
    · by_cases h0 : xs.length = 0
      · have : xs = [] := List.eq_nil_of_length_eq_zero h0
        subst this
        exact .nil (by omega)
      · refine .list (fun i j => vals.getD (i * sz + j) undef) rfl (by omega) hnc hcm hsz (fun i j hi hj => ?_) (fun i j x d hx hd => ?_)
        · have hlt : i * sz + j < vals.length := by
            rw [hown.1]
            calc i * sz + j < i * sz + sz := by omega
              _ = (i + 1) * sz := by rw [Nat.add_mul]; omega
              _ ≤ xs.length * sz := Nat.mul_le_mul_right _ (by omega)
          simp [Sig.shut, hlt, List.getD]
        · obtain ⟨v, h1, h2⟩ := hval i j x d hx hd
          simp only [List.getD, h1, Option.getD_some]
          exact h2.mono hle
def dsOf : AV → Option (List D)
  | .v (.one d) => some [d]
  | .v (.agg cs) => some cs
  | _ => none
def fillD (place : Nat → Option (Nat × Nat)) (cells : List D) : List (Nat × AV) → Option (List D)
  | [] => some cells
  | (i, a) :: rest =>
    match place i, dsOf a with
    | some (off, size), some ds => if ds.length ≠ size || cells.length < off + size then none else fillD place (cells.take off ++ ds ++ cells.drop (off + size)) rest
    | _, _ => none
theorem foldl_set (off : Nat) : ∀ (l : List Value) (j : Nat) (cs : Array Value), (l.zipIdx j).foldl (fun cs (x : Value × Nat) => cs.setIfInBounds (off + x.2) x.1) cs =
    (cs.toList.zipIdx.map fun (x : Value × Nat) => if off + j ≤ x.2 ∧ x.2 < off + j + l.length then (l[x.2 - (off + j)]?).getD x.1 else x.1).toArray
  | [], j, cs => by
    apply Array.ext_getElem?
    intro i
    simp only [List.zipIdx_nil, List.foldl_nil, List.getElem?_toArray, List.getElem?_map, List.getElem?_zipIdx, List.length_nil, Nat.add_zero, Array.getElem?_toList]
    cases cs[i]? <;> simp <;> omega
  | v :: l, j, cs => by
    rw [List.zipIdx_cons, List.foldl_cons, foldl_set off l (j + 1)]
    apply Array.ext_getElem?
    intro i
    simp only [List.getElem?_toArray, List.getElem?_map, List.getElem?_zipIdx, Array.getElem?_toList, Array.getElem?_setIfInBounds, Nat.zero_add, List.length_cons]
    by_cases hi : i < cs.size
    · by_cases e : off + j = i
      · subst e
        have c1 : ¬ (off + (j + 1) ≤ off + j) := by omega
        have c2 : off + j < off + j + (l.length + 1) := by omega
        simp [hi, c1, c2]
      · simp only [e, if_false, hi, Array.getElem?_eq_getElem, Option.map_some]
        congr 1
        by_cases h1 : off + (j + 1) ≤ i ∧ i < off + (j + 1) + l.length
        · rw [if_pos h1, if_pos (by omega)]
          have : i - (off + j) = (i - (off + (j + 1))) + 1 := by omega
          rw [this, List.getElem?_cons_succ]
        · rw [if_neg h1, if_neg (by omega)]
    · have e1 : cs[i]? = none := by simp; omega
      have c1 : ¬ (off + j = i ∧ i < cs.size) := by omega
      by_cases e : off + j = i
      · simp [e1, hi, e]
      · simp [e1, hi, e]
theorem fill_step (off : Nat) (vs : List Value) (cs : Array Value) (h : off + vs.length ≤ cs.size) :
    vs.toArray.zipIdx.foldl (fun cs (x : Value × Nat) => cs.setIfInBounds (off + x.2) x.1) cs = (cs.toList.take off ++ vs ++ cs.toList.drop (off + vs.length)).toArray := by
  rw [← Array.foldl_toList, Array.toList_zipIdx]
  simp only []
  rw [foldl_set off vs 0 cs]
  congr 1
  apply List.ext_getElem?
  intro i
  simp only [List.getElem?_map, List.getElem?_zipIdx, Nat.zero_add, Nat.add_zero]
  have l1 : (List.take off cs.toList).length = off := by simp; omega
  rw [List.append_assoc, List.getElem?_append, l1]
  by_cases h1 : i < off
  · rw [if_pos h1, List.getElem?_take_of_lt h1]
    cases hc : cs.toList[i]? <;> simp; omega
  · rw [if_neg h1, List.getElem?_append]
    by_cases h2 : i - off < vs.length
    · rw [if_pos h2]
      have : i < cs.toList.length := by simp; omega
      rw [List.getElem?_eq_getElem this]
      simp only [Option.map_some]
      rw [if_pos (by omega), List.getElem?_eq_getElem h2]; rfl
    · rw [if_neg h2, List.getElem?_drop]
      have : off + vs.length + (i - off - vs.length) = i := by omega
      rw [this]
      cases hc : cs.toList[i]? <;> simp; omega
theorem dsOf_vals {σ : Sig} {gh st} {v : Value} {a : AV} {ds : List D} (h : RepA σ gh st v a) (hd : dsOf a = some ds) : v.cells.size = ds.length ∧ RepL σ v.cells.toList ds := by
  cases a with
  | v x =>
    cases x with
    | one d =>
      cases hd
      have h : Rep σ v d := h
      rw [one_cells h.one]
      refine ⟨rfl, rfl, fun i u d' hu hd' => ?_⟩
      cases i with
      | zero => simp at hu hd'; subst hu hd'; exact h
      | succ i => simp at hu
    | agg cs =>
      cases hd
      obtain ⟨vs, rfl, hl, hr⟩ := h
      exact ⟨by simpa [Value.cells] using hl, by simpa [Value.cells] using hl, fun i u d hu hd => hr i u d (by simpa [Value.cells] using hu) hd⟩
  | _ => simp [dsOf] at hd
theorem RepL.splice {σ : Sig} {cs vs : List Value} {ds es : List D} (h : RepL σ cs ds) (k : RepL σ vs es) (off : Nat) (hle : off + vs.length ≤ cs.length) :
    RepL σ (cs.take off ++ vs ++ cs.drop (off + vs.length)) (ds.take off ++ es ++ ds.drop (off + es.length)) := by
  have e1 := h.1
  have e2 := k.1
  refine ⟨by simp; omega, fun i v d hv hd => ?_⟩
  rw [List.append_assoc, List.getElem?_append] at hv hd
  have l1 : (List.take off cs).length = off := by simp; omega
  have l2 : (List.take off ds).length = off := by simp; omega
  rw [l1] at hv
  rw [l2] at hd
  split at hv
  · rename_i hi
    rw [if_pos hi] at hd
    rw [List.getElem?_take_of_lt hi] at hv hd
    exact h.2 i v d hv hd
  · rename_i hi
    rw [if_neg hi] at hd
    rw [List.getElem?_append] at hv hd
    split at hv
    · rename_i hi2
      rw [if_pos (by omega)] at hd
      exact k.2 _ v d hv hd
    · rename_i hi2
      rw [if_neg (by omega)] at hd
      rw [List.getElem?_drop] at hv hd
      refine h.2 _ v d hv ?_
      rw [← hd]; congr 1; omega
theorem fill_rep {σ : Sig} {gh st} (place : Nat → Option (Nat × Nat)) : ∀ (vp : List (Nat × Value)) (ap : List (Nat × AV)) (cs : Array Value) (ds out : List D), vp.length = ap.length →
    (∀ (j : Nat) x y, vp[j]? = some x → ap[j]? = some y → x.1 = y.1 ∧ RepA σ gh st x.2 y.2) → RepL σ cs.toList ds → fillD place ds ap = some out →
    ∃ cs', Instr.fill place cs vp = some cs' ∧ RepL σ cs'.toList out
  | [], ap, cs, ds, out, hl, hp, hr, hf => by
    cases ap with
    | nil => simp only [fillD, Option.some.injEq] at hf; subst hf; exact ⟨cs, rfl, hr⟩
    | cons _ _ => simp at hl
  | (i, v) :: vp, ap, cs, ds, out, hl, hp, hr, hf => by
    cases ap with
    | nil => simp at hl
    | cons y ap =>
      obtain ⟨i', a⟩ := y
      obtain ⟨e1, hv⟩ := hp 0 (i, v) (i', a) rfl rfl
      simp only at e1
      subst e1
      unfold fillD at hf
      split at hf
      · rename_i off size es hpl hds
        split at hf
        · cases hf
        · rename_i hc
          simp at hc
          obtain ⟨h1, h2⟩ := dsOf_vals hv hds
          simp only at h1 h2
          have hcl : cs.size = ds.length := by simpa using hr.1
          have hstep := fill_step off v.cells.toList cs (by simp; omega)
          have hr' := hr.splice h2 off (by simp; omega)
          have hsz : v.cells.toList.length = size := by simp; omega
          have hs2 : es.length = size := hc.1
          rw [hs2, hsz] at hr'
          obtain ⟨cs', hf', hr2⟩ := fill_rep place vp ap (cs.toList.take off ++ v.cells.toList ++ cs.toList.drop (off + size)).toArray _ out (by simpa using hl) (fun j x y hx hy => hp (j + 1) x y (by simpa using hx) (by simpa using hy)) (by simpa using hr') hf
          refine ⟨cs', ?_, hr2⟩
          unfold Instr.fill
          rw [hpl]
          simp only []
          rw [if_neg (by simp; omega)]
          rw [hsz] at hstep
          simp only [Array.toArray_toList] at hstep
          rw [← hf']
          congr 1
      · cases hf
end Go.Proofs.Nw.K
end
section
/- K9: operations: build, buildSlice, extract, convert, elements of rows. -/
open Go Go.RowKit
namespace Go.Proofs.Nw.K
def zeroD (P : Program) (t : TypeId) : Option (List D) :=
  match P.info? t with
  | some i => match i.zero with
    | some z => if z.cells.toList.all (fun c => match c with | .slice none 0 0 => true | v => scal v) then some (z.cells.toList.map cD) else none
    | none => none
  | none => none
theorem zeroD_spec {P : Program} {t : TypeId} {zs : List D} (h : zeroD P t = some zs) : ∃ i z, P.info? t = some i ∧ i.zero = some z ∧ ∀ σ, RepL σ z.cells.toList zs := by
  unfold zeroD at h
  split at h
  · rename_i i hi
    split at h
    · rename_i z hz
      split at h
      · rename_i hall
        cases h
        refine ⟨i, z, hi, hz, fun σ => ⟨by simp, fun j v d hv hd => ?_⟩⟩
        simp only [List.getElem?_map, Option.map_eq_some_iff] at hd
        obtain ⟨v', hv', rfl⟩ := hd
        rw [hv] at hv'
        cases hv'
        exact rep_cD (List.all_eq_true.1 hall v (List.mem_of_getElem? hv))
      · cases h
    · cases h
  · cases h
def fieldPlaces (P : Program) : List Field → Option (List (Nat × Nat))
  | [] => some []
  | f :: r => match P.info? f.type, fieldPlaces P r with
    | some i, some ps => some ((f.offset, i.size) :: ps)
    | _, _ => none
theorem fieldPlaces_run {P : Program} : ∀ {fs : List Field} {ps : List (Nat × Nat)} (h : fieldPlaces P fs = some ps) (w : World),
    (fs.mapM (fun f => do pure (f.offset, ← sizeOf f.type) : Field → Sem (Nat × Nat))).run P w = .ok ps w
  | [], ps, h, w => by cases h; simp
  | f :: r, ps, h, w => by
    unfold fieldPlaces at h
    split at h
    · rename_i i ps' hi hps
      cases h
      simp [List.mapM_cons, sizeOf, typeInfo, hi, fieldPlaces_run hps w]
      have := fieldPlaces_run hps w
      simp [sizeOf, typeInfo] at this
      simp [this]
    · cases h
def buildT (P : Program) (t : TypeId) : Option (List (Nat × Nat)) :=
  match P.underlying t with
  | some (.struct fs) => fieldPlaces P fs.toList
  | _ => none
section
variable {P : Program} {E : Operand → AV} {st : List AO}
theorem parts_rep {σ : Sig} {gh} (ρ : Operand → Value) (parts : List (Nat × Operand)) (hρ : ∀ x ∈ parts.map (·.2), RepA σ gh st (ρ x) (E x)) :
    ∀ (j : Nat) x y, (parts.map fun p => (p.1, ρ p.2))[j]? = some x → (parts.map fun p => (p.1, E p.2))[j]? = some y → x.1 = y.1 ∧ RepA σ gh st x.2 y.2 := by
  intro j x y hx hy
  simp only [List.getElem?_map, Option.map_eq_some_iff] at hx hy
  obtain ⟨p, hp, rfl⟩ := hx
  obtain ⟨q, hq, rfl⟩ := hy
  rw [hp] at hq
  cases hq
  exact ⟨rfl, hρ _ (List.mem_map.2 ⟨p, List.mem_of_getElem? hp, rfl⟩)⟩
theorem op_build (t : TypeId) (parts : Array (Nat × Operand)) (zs ds : List D) (ps : List (Nat × Nat)) (hz : zeroD P t = some zs) (hp : buildT P t = some ps)
    (hf : fillD (ps[·]?) zs (parts.toList.map fun p => (p.1, E p.2)) = some ds) : OpS P (.build t parts) E st (.agg ds) st :=
  op_pure fun o ho w0 σ0 σ gh ρ w hb hρ => by
    obtain ⟨i, z, hi, hz', hrz⟩ := zeroD_spec hz
    unfold buildT at hp
    split at hp <;> try cases hp
    rename_i fs hu
    have hpr := parts_rep (E := E) (st := st) (σ := σ) (gh := gh) ρ parts.toList (fun x hx => hρ x (by simpa [Op.operands] using hx))
    obtain ⟨cs', h1, h2⟩ := fill_rep (σ := σ) (gh := gh) (st := st) (ps[·]?) _ _ z.cells zs ds (by simp) hpr (hrz σ) hf
    refine ⟨.agg cs', ?_, cs'.toList, by simp, h2⟩
    have hm := fieldPlaces_run hp w
    have hm' : (fs.mapM (fun f => do pure (f.offset, ← sizeOf f.type) : Field → Sem (Nat × Nat))).run P w = .ok ps.toArray w := by
      rw [Array.mapM_eq_mapM_toList, Sem.run_map, hm]; rfl
    have hpp : (parts.map fun p => (p.1, ρ p.2)).toList = parts.toList.map fun p => (p.1, ρ p.2) := by simp
    simp only [execOp, ho, Instr.build, zeroValue, typeInfo, Sem.run_bind, run_program, Result.andThen_ok, hi, Sem.run_pure, hz', run_underlying hu, hm']
    have h1' : Instr.fill (fun x => ps.toArray[x]?) z.cells (parts.map fun p => (p.1, ρ p.2)).toList = some cs' := by rw [hpp]; simpa using h1
    simp [h1]
def chunk (sz : Nat) (ds : List D) : Nat → List (List D)
  | 0 => []
  | n + 1 => ds.take sz :: chunk sz (ds.drop sz) n
theorem chunk_get (sz : Nat) : ∀ (n : Nat) (ds : List D) (i : Nat) x, (chunk sz ds n)[i]? = some x → i < n ∧ x = (ds.drop (i * sz)).take sz
  | 0, ds, i, x, h => by simp [chunk] at h
  | n + 1, ds, i, x, h => by
    cases i with
    | zero => simp [chunk] at h; subst h; simp
    | succ i =>
      simp only [chunk, List.getElem?_cons_succ] at h
      obtain ⟨h1, h2⟩ := chunk_get sz n _ i x h
      refine ⟨by omega, ?_⟩
      rw [h2, List.drop_drop]
      congr 2
      rw [Nat.add_mul]; omega
theorem chunk_length (sz : Nat) : ∀ (n : Nat) (ds : List D), (chunk sz ds n).length = n
  | 0, _ => rfl
  | n + 1, ds => by simp [chunk, chunk_length sz n]
theorem op_buildSlice (t e : TypeId) (sz len : Nat) (parts : Array (Nat × Operand)) (zs ds : List D) (ht : elT P t = some (e, sz)) (hz : zeroD P e = some zs) (hzl : zs.length = sz) (hpos : 0 < len * sz) (hmax : len * sz ≤ 16777216)
    (hf : fillD (fun i => some (i * sz, sz)) ((List.range (len * sz)).map fun i => zs.getD (i % sz) .nils) (parts.toList.map fun p => (p.1, E p.2)) = some ds) (hdl : ds.length = len * sz) :
    OpS P (.buildSlice t len parts) E st (.d (.full sz (chunk sz ds len))) st := by
  intro o ho w0 σ0 σ gh ρ w hb hρ
  obtain ⟨i, z, hi, hz', hrz⟩ := zeroD_spec hz
  obtain ⟨hu, i', hi', hsz⟩ := elT_spec ht
  rw [hi] at hi'
  cases hi'
  have hpr := parts_rep (E := E) (st := st) (σ := σ) (gh := gh) ρ parts.toList (fun x hx => hρ x (by simpa [Op.operands] using hx))
  have hzr := hrz σ
  have hzs : z.cells.size = sz := by have := hzr.1; simpa [hzl] using this
  have hsp : 0 < sz := Nat.pos_of_mul_pos_left hpos
  have hbase : RepL σ ((Array.range (len * sz)).map (fun x => z.cells[x % z.cells.size]!)).toList ((List.range (len * sz)).map fun i => zs.getD (i % sz) .nils) := by
    refine ⟨by simp, fun j v d hv hd => ?_⟩
    simp only [List.getElem?_map, Option.map_eq_some_iff, Array.toList_map, Array.toList_range] at hv hd
    obtain ⟨j1, hj1, rfl⟩ := hv
    obtain ⟨j2, hj2, rfl⟩ := hd
    rw [hj1] at hj2
    cases hj2
    have hlt : j1 % sz < z.cells.size := by rw [hzs]; exact Nat.mod_lt _ hsp
    have hlt2 : j1 % sz < zs.length := by rw [hzl]; exact Nat.mod_lt _ hsp
    have e1 : z.cells[j1 % z.cells.size]! = z.cells[j1 % sz] := by rw [hzs]; exact getElem!_pos z.cells _ hlt
    rw [e1]
    refine hzr.2 (j1 % sz) _ _ (by simp [hlt]) (by simp [List.getD, hlt2])
  obtain ⟨cs', h1, h2⟩ := fill_rep (σ := σ) (gh := gh) (st := st) (fun i => some (i * sz, sz)) _ _ _ _ ds (by simp) hpr hbase hf
  have hpp : (parts.map fun p => (p.1, ρ p.2)).toList = parts.toList.map fun p => (p.1, ρ p.2) := by simp
  have h1' : Instr.fill (fun i => some (i * sz, sz)) ((Array.range (len * sz)).map (fun x => z.cells[x % z.cells.size]!)) (parts.map fun p => (p.1, ρ p.2)).toList = some cs' := by rw [hpp]; exact h1
  have hrun : (execOp ρ o).run P w = .ok (.value (.slice (some ⟨w.heap.size, 0, none⟩) len len)) (w.alloc (.cells cs' e)) := by
    have hm : ¬ (len * sz > 2 ^ 24) := by omega
    have h0 : ¬ (len * sz = 0) := by omega
    simp only [execOp, ho, Instr.buildSlice, Sem.run_bind, run_underlying hu, Result.andThen_ok, sizeOf, typeInfo, run_program, hi, Sem.run_pure, hsz, hm, if_false, h0, zeroValue, hz']
    simp [newRow, h1]
  rw [hrun]
  have hone : ∀ v ∈ cs', v.oneCell' = true := fun v hv => by
    obtain ⟨j, hj, rfl⟩ := List.getElem_of_mem (by simpa using hv : v ∈ cs'.toList)
    have hj' : j < ds.length := by rw [← h2.1]; exact hj
    exact (h2.2 j _ ds[j] (by simp [hj]) (by simp [hj'])).one
  have hf' := new_sealed hb cs' e hone
  have hle := Sig.le_seal (hb.sl.fresh (Nat.le_refl _)) cs'.toList
  refine ⟨_, gh, hf', ?_⟩
  have hcl : cs'.size = len * sz := by have := h2.1; simp at this; omega
  have hlen : 0 < len := Nat.pos_of_mul_pos_right hpos
  have hbnd : ∀ i j, i < len → j < sz → i * sz + j < len * sz := fun i j hi' hj => by
    calc i * sz + j < i * sz + sz := by omega
      _ = (i + 1) * sz := by rw [Nat.add_mul]; omega
      _ ≤ len * sz := Nat.mul_le_mul_right _ (by omega)
  refine Rep.full ?_ (fun a n c h => by cases h; rfl)
  refine Rep.list (fun i j => cs'.getD (i * sz + j) undef) (chunk_length sz len ds).symm hlen (Nat.le_refl _) ?_ (fun i x hx => ?_) (fun i j hi' hj => ?_) (fun i j x d hx hd => ?_)
  · have : len ≤ len * sz := Nat.le_mul_of_pos_right _ hsp
    simp only [maxLen]; omega
  · obtain ⟨h3, rfl⟩ := chunk_get sz len ds i x hx
    have := Nat.mul_le_mul_right sz (show i + 1 ≤ len by omega)
    rw [Nat.add_mul] at this
    simp; omega
  · have := hbnd i j hi' hj
    simp [Sig.shut, Array.getD, hcl, this]
  · obtain ⟨h3, rfl⟩ := chunk_get sz len ds i x hx
    have hj : j < sz := by have := (List.getElem?_eq_some_iff.1 hd).1; simp at this; omega
    rw [List.getElem?_take_of_lt hj, List.getElem?_drop] at hd
    have hlt := hbnd i j h3 hj
    have : Rep σ (cs'.getD (i * sz + j) undef) d := h2.2 (i * sz + j) _ d (by simp [Array.getD, hcl, hlt]) hd
    exact this.mono hle
theorem OpS.weaken {op : Op} {st' : List AO} {v v' : AV} (h : OpS P op E st v st') (hv : ∀ σ gh u, RepA σ gh st' u v → RepA σ gh st' u v') (hj : v = .junk → v' = .junk) : OpS P op E st v' st' := by
  intro o ho w0 σ0 σ gh ρ w hb hρ
  have := h o ho w0 σ0 σ gh ρ w hb hρ
  unfold Out at this ⊢
  split
  · rename_i u w' e
    rw [e] at this
    obtain ⟨σ', gh', h1, h2⟩ := this
    exact ⟨σ', gh', h1, hv _ _ _ h2⟩
  · rename_i w' e
    rw [e] at this
    exact ⟨hj this.1, this.2⟩
  · rename_i f args w' e
    rw [e] at this
    exact this.mono fun _ _ ⟨u, h0, σ', gh', h1, h2⟩ => ⟨u, h0, σ', gh', h1, hv _ _ _ h2⟩
  · rename_i hn1 hn2 hn3
    split at this
    · rename_i u w' e; exact (hn1 _ _ e).elim
    · rename_i w' e; exact (hn2 _ e).elim
    · rename_i f args w' e; exact (hn3 _ _ _ e).elim
    · exact this
theorem full_list {σ : Sig} {v : Value} {sz : Nat} {xs} (h : Rep σ v (.full sz xs)) : Rep σ v (.list sz xs) := by cases h; assumption
theorem op_extract (x : Operand) (i : Nat) (vs : List DV) (d : DV) (hx : E x = .tup vs) (hd : vs[i]? = some d) : OpS P (.extract x i) E st (.v d) st :=
  op_pure fun o ho w0 σ0 σ gh ρ w hb hρ => by
    have h1 := hρ x (by simp [Op.operands])
    rw [hx] at h1
    obtain ⟨us, e1, hl, hr⟩ := h1
    have hi : i < us.length := by rw [hl]; exact (List.getElem?_eq_some_iff.1 hd).1
    exact ⟨us[i], by simp [execOp, ho, e1, Instr.extract, hi], hr i _ d (by simp [hi]) hd⟩
theorem op_convert_int (s d : TypeId) (x : Operand) (k k' : IntKind) (n : Int) (u : TypeDesc) (hs : P.underlying s = some u) (hd : P.underlying d = some (.int k)) (hx : E x = .sc (.int k' n)) (hu : u = .int k') :
    OpS P (.convert s d x) E st (.sc (.int k (k.wrap n))) st :=
  op_pure fun o ho w0 σ0 σ gh ρ w hb hρ => by
    have h1 := hρ x (by simp [Op.operands])
    rw [hx] at h1
    subst hu
    exact ⟨_, by simp [execOp, ho, RepA_sc h1, convert, run_underlying hs, run_underlying hd, Conv.intToInt], RepA_of_sc rfl⟩
theorem op_makeFunc (f : FuncId) : OpS P (.makeFunc (.func f) #[] #[]) E st (.sc (.func (.func f) #[] #[])) st :=
  op_pure fun o ho w0 σ0 σ gh ρ w hb hρ => ⟨_, by simp [execOp, ho, Instr.makeFunc], RepA_of_sc rfl⟩
theorem op_indexAddr_h (t e : TypeId) (sz : Nat) (x i : Operand) (k : IntKind) (m : Int) (s v lo n e' : Nat) (xs : List (List D)) (ht : elT P t = some (e, sz)) (hx : E x = .h s v lo n) (hi : E i = .sc (.int k m))
    (hst : st[s]? = some (.row v e' sz xs)) (h0 : 0 ≤ m) (h1 : m < n) : OpS P (.indexAddr t x i) E st (.ep s v (lo + m.toNat) 0) st :=
  op_pure fun o ho w0 σ0 σ gh ρ w hb hρ => by
    have h2 := hρ x (by simp [Op.operands])
    have h3 := hρ i (by simp [Op.operands])
    rw [hx] at h2
    rw [hi] at h3
    have h3 := RepA_sc h3
    obtain ⟨hu, ti, hinfo, rfl⟩ := elT_spec ht
    obtain ⟨g, hg, hR, A, c, hv⟩ := h_val hb hst h2
    obtain ⟨vals, hown, _⟩ := hb.obj s _ _ hst hg
    have hn : 0 < n := by omega
    have hlen := hR.1
    have : ∃ b m' c', g = .slice (some ⟨b, 0, none⟩) m' c' ∧ A = some ⟨b, lo * ti.size, none⟩ := by
      obtain ⟨h0, ⟨a1, a2, a3⟩ | ⟨b, m, c2, a1, a2, ⟨a3, _⟩ | a3⟩⟩ := hR
      · rcases hown.2 with ⟨e1, e2⟩ | ⟨b, cap, cur, e1, _⟩
        · omega
        · rw [hv, e1] at a3
          injection a3 with a4 a5 a6
          exact ⟨b, _, _, e1, by rw [a4, a1]; simp⟩
      · omega
      · rw [hv] at a3
        injection a3 with a4 a5 a6
        exact ⟨b, _, _, a1, a4⟩
    obtain ⟨b, m', c', hgv, hA⟩ := this
    refine ⟨.pointer (some ⟨b, lo * ti.size + m.toNat * ti.size, none⟩), ?_, g, _, hg, hst, fun k' e2 sz2 xs2 heq => ?_⟩
    · simp [execOp, ho, hv, hA, h3, Instr.indexAt, asIntOf, run_underlying hu, sizeOf, typeInfo, hinfo, h0, h1, add_lit]
    · cases heq
      refine ⟨Nat.le_refl _, fun _ => ⟨by omega, b, m', c', hgv, by rw [Nat.add_mul, Nat.add_zero]⟩⟩
theorem ep_val {w0 : World} {σ0 σ gh w} (hb : Base w0 σ0 σ gh st w) {s v i off e sz : Nat} {xs} (hst : st[s]? = some (.row v e sz xs)) {u : Value} (h : RepA σ gh st u (.ep s v i off)) :
    ∃ g b m c cap cur vals, gh[s]? = some g ∧ g = .slice (some ⟨b, 0, none⟩) m c ∧ u = .pointer (some ⟨b, i * sz + off, none⟩) ∧ i < xs.length ∧ w0.heap.size ≤ b ∧ w.heap[b]? = some (.cells cur e (0, 0)) ∧
      m = xs.length ∧ c = cap ∧ xs.length ≤ cap ∧ cap ≤ maxLen ∧ cur.size = cap * sz ∧ cur.toList.take (xs.length * sz) = vals ∧ vals.length = xs.length * sz ∧ RepRows σ vals sz xs ∧ Uns σ b ∧ (∀ v ∈ vals, v.oneCell' = true) := by
  obtain ⟨g, o, h1, h2, h3⟩ := h
  rw [hst] at h2
  cases h2
  obtain ⟨hi, b, m, c, h4, h5⟩ := (h3 _ _ _ _ rfl).2 rfl
  obtain ⟨vals, hown, hsz, hval, huns, hone⟩ := hb.obj s _ _ hst h1
  rcases hown.2 with ⟨e1, e2⟩ | ⟨b', cap, cur, e1, e2, e3, e4, e5, e6, e7⟩
  · omega
  · rw [h4] at e1
    cases e1
    exact ⟨g, b, xs.length, c, c, cur, vals, h1, h4, h5, hi, e2, e3, rfl, rfl, e4, e5, e6, e7, hown.1, ⟨hsz, hval⟩, huns b (by simp [h4, blkOf]), hone⟩
theorem op_load_ep1 (t : TypeId) (x : Operand) (n s v i off e sz : Nat) (d : D) (xs : List (List D)) (cells : List D) (ht : ldT P t = some (n, false)) (hx : E x = .ep s v i off) (hst : st[s]? = some (.row v e sz xs))
    (hc : xs[i]? = some cells) (hd : cells[off]? = some d) : OpS P (.load t x) E st (.d d) st :=
  op_pure fun o ho w0 σ0 σ gh ρ w hb hρ => by
    have h1 := hρ x (by simp [Op.operands])
    rw [hx] at h1
    obtain ⟨g, b, m, c, cap, cur, vals, a1, a2, a3, a4, a5, a6, a7, a8, a9, a10, a11, a12, a13, a14, a15, a16⟩ := ep_val hb hst h1
    obtain ⟨u, b1, b2⟩ := a14.2 i off cells d hc hd
    have hcell : w.cell? ⟨b, i * sz + off, none⟩ = some u := by
      rw [cell_of_row w b _ cur e (0, 0) a6]
      rw [← a12, List.getElem?_take] at b1
      split at b1
      · simpa using b1
      · cases b1
    exact ⟨u, by simp [execOp, ho, a3, Instr.loadAt, Instr.sureAddr, run_loadVar_one ht hcell], b2⟩
theorem op_load_ep (t : TypeId) (x : Operand) (n s v i off e sz : Nat) (xs : List (List D)) (cells : List D) (ht : ldT P t = some (n, true)) (hx : E x = .ep s v i off) (hst : st[s]? = some (.row v e sz xs))
    (hc : xs[i]? = some cells) (hn : off + n ≤ cells.length) : OpS P (.load t x) E st (.agg ((cells.drop off).take n)) st :=
  op_pure fun o ho w0 σ0 σ gh ρ w hb hρ => by
    have h1 := hρ x (by simp [Op.operands])
    rw [hx] at h1
    obtain ⟨g, b, m, c, cap, cur, vals, a1, a2, a3, a4, a5, a6, a7, a8, a9, a10, a11, a12, a13, a14, a15, a16⟩ := ep_val hb hst h1
    have hcs := a14.1 _ _ hc
    have hle : i * sz + off + n ≤ vals.length := by
      rw [a13]
      calc i * sz + off + n ≤ i * sz + sz := by omega
        _ = (i + 1) * sz := by rw [Nat.add_mul]; omega
        _ ≤ xs.length * sz := Nat.mul_le_mul_right _ (by omega)
    have hr := run_loadVar_agg (P := P) ht (w := w) (b := b) (o := i * sz + off) ((vals.drop (i * sz + off)).take n) (by simp; omega) (fun j u hu => by
      rw [List.getElem?_take] at hu
      split at hu
      · rw [List.getElem?_drop, ← a12, List.getElem?_take] at hu
        split at hu
        · rw [cell_of_row w b _ cur e (0, 0) a6]; simpa using hu
        · cases hu
      · cases hu)
    refine ⟨.agg ((vals.drop (i * sz + off)).take n).toArray, by simp [execOp, ho, a3, Instr.loadAt, Instr.sureAddr, hr], _, rfl, by simp; omega, fun j u d hu hd => ?_⟩
    have hj : j < n := by have := (List.getElem?_eq_some_iff.1 hd).1; simp at this; omega
    rw [List.getElem?_take_of_lt hj, List.getElem?_drop] at hu hd
    obtain ⟨u', b1, b2⟩ := a14.2 i (off + j) cells d hc hd
    rw [Nat.add_assoc] at hu
    rw [hu] at b1
    cases b1
    exact b2
end
end Go.Proofs.Nw.K
end
section
/- K10: code: sequences, branches, loops, regions; calls; contracts. -/
open Go Go.RowKit
namespace Go.Proofs.Nw.K
abbrev Env := Nat → AV
structure Ini where
  σ : Sig
  gh : List Value
  st : List AO
structure Fm where
  n : Nat
  o : Nat
def Rel (N : Fm) (w0 : World) (σ0 : Sig) (I : Ini) (env : Env) (st : List AO) (a : Act) (w : World) : Prop :=
  a.tmps.size = N.n ∧ a.defers = [] ∧ I.gh.length = N.o ∧ ∃ σ gh, Base w0 σ0 σ gh st w ∧ (∀ v a, RepA I.σ I.gh I.st v a → RepA σ gh st v a) ∧ ∀ t, RepA σ gh st (a.tmps.getD t undef) (env t)
abbrev Post := Exit → Env → List AO → Prop
def Sub (N : Fm) (env : Env) (st : List AO) (env' : Env) (st' : List AO) : Prop := ∀ w0 σ0 I a w, Rel N w0 σ0 I env st a w → Rel N w0 σ0 I env' st' a w
theorem Sub.refl (N env st) : Sub N env st env st := fun _ _ _ _ _ h => h
theorem Sub.trans {N a b c d e f} (h : Sub N a b c d) (k : Sub N c d e f) : Sub N a b e f := fun _ _ _ _ _ x => k _ _ _ _ _ (h _ _ _ _ _ x)
section
variable {P : Program} {N : Fm} {env : Env} {st : List AO} {Q : Post}
def updO (env : Env) (dst : Option Tmp) (v : AV) : Env := match dst with | some d => upd env d v | none => env
theorem put_getD (a : Act) (d t : Nat) (u : Value) (hd : d < a.tmps.size) : (a.put (some d) u).tmps.getD t undef = if t = d then u else a.tmps.getD t undef := by
  simp only [Act.put, Array.getD_eq_getD_getElem?, Array.getElem?_setIfInBounds]
  by_cases e : d = t
  · subst e; simp [hd]
  · have : ¬ t = d := fun h => e h.symm
    simp [e, this]
variable {ops : Array Oper} {rest : List Oper} {K : Env → List AO → Prop}
def OpN (P : Program) (op : Op) (E : Operand → AV) (st : List AO) (V : AV → List AO → Prop) : Prop :=
  ∀ (o : Oper), o.op = op → ∀ w0 σ0 σ gh ρ w, Base w0 σ0 σ gh st w → (∀ x ∈ op.operands, RepA σ gh st (ρ x) (E x)) → ∃ v st', V v st' ∧ Out P w0 σ0 σ gh st v st' ((execOp ρ o).run P w)
theorem OpS.n {op : Op} {E : Operand → AV} {v : AV} {st' : List AO} {V : AV → List AO → Prop} (h : OpS P op E st v st') (hv : V v st') : OpN P op E st V :=
  fun o ho w0 σ0 σ gh ρ w hb hρ => ⟨v, st', hv, h o ho w0 σ0 σ gh ρ w hb hρ⟩
end
end Go.Proofs.Nw.K
end
section
/- K11: contracts of functions; calls; what may be forgotten. -/
open Go Go.RowKit
namespace Go.Proofs.Nw.K
def RepRes (σ : Sig) (u : Value) (res : List DV) : Prop :=
  match res with
  | [d] => RepV σ u d
  | ds => ∃ us : List Value, u = .tuple us.toArray ∧ RepVs σ us ds
def Impl (P : Program) (f : FuncId) (args res : List DV) : Prop :=
  ∀ w σ vs, Sealed σ w → RepVs σ vs args → Calls P f vs.toArray w fun e w' => ∃ u σ', e = .returned u ∧ BelowD w.heap.size w w' ∧ Sealed σ' w' ∧
    (∀ b, b < w.heap.size → σ'.cell b = σ.cell b ∧ σ'.obj b = σ.obj b) ∧ RepRes σ' u res
def resAV : List DV → AV
  | [d] => .v d
  | ds => .tup ds
theorem resAV_rep {σ : Sig} {gh st} {u : Value} {res : List DV} (h : RepRes σ u res) : RepA σ gh st u (resAV res) := by
  unfold RepRes at h
  split at h
  · exact h
  · rename_i hne
    unfold resAV
    split
    · exact absurd rfl (hne _)
    · exact h
theorem Sealed.le_of {σ σ' : Sig} {w : World} (h : Sealed σ w) (hs : ∀ b, b < w.heap.size → σ'.cell b = σ.cell b ∧ σ'.obj b = σ.obj b) : σ.le σ' :=
  ⟨fun b o v hv => by rw [(hs b (World.block_lt_of_cell? w _ (h.cell b o v hv).1)).1]; exact hv,
   fun r o ho => by rw [(hs r (Array.getElem?_eq_some_iff.1 (h.obj r o ho)).1).2]; exact ho⟩
theorem Fut.call {w0 : World} {σ0 σ gh st w} (hb : Base w0 σ0 σ gh st w) {w' : World} {σ' : Sig} (hbl : BelowD w.heap.size w w') (hsl : Sealed σ' w') (hs : ∀ b, b < w.heap.size → σ'.cell b = σ.cell b ∧ σ'.obj b = σ.obj b) :
    Fut w0 σ0 σ gh st σ' gh st w' := by
  have hle := hb.sl.le_of hs
  have hg : w.grownBy w' none := ⟨hbl.os, hbl.tape, hbl.output, hbl.size, fun k hk _ => hbl.block k hk⟩
  have b' := hb.grown hg hbl.dr
  have keep : ∀ v a, RepA σ gh st v a → RepA σ' gh st v a := fun v a h => h.sig hle
  refine ⟨⟨b'.below, fun b h => ?_, hsl, b'.len, b'.sep, b'.lt, fun s o g h1 h2 => ?_⟩, keep⟩
  · have h1 := hb.ext b h
    have h2 := hs b (by have := hb.below.size; omega)
    exact ⟨h2.1.trans h1.1, h2.2.trans h1.2⟩
  · refine (b'.obj s o g h1 h2).sig hle (fun b hbk hu => ?_) keep
    have := hs b (hb.lt s g b h2 hbk)
    exact ⟨fun o => by rw [this.1]; exact hu.1 o, by rw [this.2]; exact hu.2⟩
def callable (P : Program) (f : FuncId) : Bool :=
  match P.funcs[f]? with
  | some fn => fn.body.isSome && !(fn.name == "runtime.NumGoroutine")
  | none => false
theorem callFunc_run {P : Program} {f : FuncId} (h : callable P f = true) (args : Array Value) (w : World) : (callFunc f args).run P w = .ok (.enter f args) w := by
  unfold callable at h
  split at h
  · rename_i fn hf
    simp only [Bool.and_eq_true, Bool.not_eq_true'] at h
    have h1 : fn.body.isNone = false := by cases hb : fn.body <;> simp_all
    have h2 : ¬ fn.name = "runtime.NumGoroutine" := by simpa using h.2
    have h3 : ¬ fn.body = none := by intro e; rw [e] at h1; cases h1
    simp [callFunc, hf, h2, h3]
  · cases h
def argsDV : List AV → Option (List DV)
  | [] => some []
  | .v d :: r => match argsDV r with | some ds => some (d :: ds) | none => none
  | _ => none
theorem argsDV_rep {σ : Sig} {gh st} : ∀ {avs : List AV} {ds : List DV} {vs : List Value}, argsDV avs = some ds → vs.length = avs.length → (∀ (i : Nat) v a, vs[i]? = some v → avs[i]? = some a → RepA σ gh st v a) → RepVs σ vs ds
  | [], ds, vs, h, hl, hr => by cases h; exact ⟨by simpa using hl, fun i v d _ hd => by simp at hd⟩
  | a :: avs, ds, vs, h, hl, hr => by
    unfold argsDV at h
    split at h
    · cases h; rename_i heq; cases heq
    · rename_i d r heq
      cases heq
      split at h <;> try cases h
      rename_i ds' hds
      cases vs with
      | nil => simp at hl
      | cons v vs =>
        have ih := argsDV_rep (vs := vs) hds (by simpa using hl) (fun i v a hv ha => hr (i + 1) v a (by simpa using hv) (by simpa using ha))
        refine ⟨by simp [ih.1], fun i u d' hu hd => ?_⟩
        cases i with
        | zero => simp at hu hd; subst hu hd; exact hr 0 _ _ rfl rfl
        | succ i => simp at hu hd; exact ih.2 i u d' hu hd
    · cases h
section
variable {P : Program} {N : Fm} {E : Operand → AV} {env : Env} {st : List AO} {Q : Post}
abbrev fnAV (f : FuncId) : AV := .sc (.func (.func f) #[] #[])
theorem op_call (x : Operand) (f : FuncId) (args : Array Operand) (ts : Array TypeId) (ds res : List DV) (hx : E x = fnAV f) (hc : callable P f = true) (ha : argsDV (args.toList.map E) = some ds) (hi : Impl P f ds res) :
    OpS P (.call { callee := .value x, args := args, argTypes := ts }) E st (resAV res) st := by
  intro o ho w0 σ0 σ gh ρ w hb hρ
  have hf := hρ x (by simp [Op.operands, Call.operands])
  rw [hx] at hf
  have hf := RepA_sc hf
  have hrun : (execOp ρ o).run P w = .ok (.enter f (args.map ρ)) w := by
    simp only [execOp, ho, resolve, hf, Deferred.ofValue, Sem.run_bind, Sem.run_pure, Result.andThen_ok, invoke]
    rw [show (#[] ++ Array.map ρ args ++ #[]) = Array.map ρ args by simp]
    exact callFunc_run hc (args.map ρ) w
  rw [hrun]
  have hvs : RepVs σ (args.toList.map ρ) ds := argsDV_rep ha (by simp) (fun i v a hv ha => by
    simp only [List.getElem?_map, Option.map_eq_some_iff] at hv ha
    obtain ⟨y, hy, rfl⟩ := hv
    obtain ⟨z, hz, rfl⟩ := ha
    rw [hy] at hz
    cases hz
    exact hρ y (by
      have hm : y ∈ args := by rw [← Array.mem_toList_iff]; exact List.mem_of_getElem? hy
      simp only [Op.operands, Call.operands]
      exact Array.mem_append.2 (.inr hm)))
  have := hi w σ _ hb.sl hvs
  have he : (args.toList.map ρ).toArray = args.map ρ := by apply Array.ext'; simp
  rw [he] at this
  refine Calls.mono this fun e w' hq => ?_
  obtain ⟨u, σ', rfl, h1, h2, h3, h4⟩ := hq
  exact ⟨u, rfl, σ', gh, Fut.call hb h1 h2 h3, resAV_rep h4⟩
def resM (tm : Nat → Value) : ResultVar → Sem Value
  | .tmp t => pure (tm t)
  | .cell a t => do loadVar t (← asAddr (tm a))
theorem results_eq (fn : Func) (tmps : Array Value) : results fn tmps = (do let vs ← fn.results.mapM (resM fun t => tmps.getD t undef); pure (if h : vs.size = 1 then vs[0] else .tuple vs)) := by
  unfold results
  congr 1
def Eff (P : Program) (f : FuncId) (args : List AV) (st : List AO) (res : List DV) (st' : List AO) : Prop :=
  ∀ w0 σ0 σ gh w (vs : List Value), Base w0 σ0 σ gh st w → vs.length = args.length → (∀ (i : Nat) v a, vs[i]? = some v → args[i]? = some a → RepA σ gh st v a) →
    Calls P f vs.toArray w fun e w' => ∃ u, e = .returned u ∧ ∃ σ' gh', Fut w0 σ0 σ gh st σ' gh' st' w' ∧ RepRes σ' u res
theorem op_calleff (x : Operand) (f : FuncId) (args : Array Operand) (ts : Array TypeId) (avs : List AV) (res : List DV) (st' : List AO) (hx : E x = fnAV f) (hc : callable P f = true) (ha : args.toList.map E = avs) (hi : Eff P f avs st res st') :
    OpS P (.call { callee := .value x, args := args, argTypes := ts }) E st (resAV res) st' := by
  intro o ho w0 σ0 σ gh ρ w hb hρ
  subst ha
  have hf := hρ x (by simp [Op.operands, Call.operands])
  rw [hx] at hf
  have hf := RepA_sc hf
  have hrun : (execOp ρ o).run P w = .ok (.enter f (args.map ρ)) w := by
    simp only [execOp, ho, resolve, hf, Deferred.ofValue, Sem.run_bind, Sem.run_pure, Result.andThen_ok, invoke]
    rw [show (#[] ++ Array.map ρ args ++ #[]) = Array.map ρ args by simp]
    exact callFunc_run hc (args.map ρ) w
  rw [hrun]
  have := hi w0 σ0 σ gh w (args.toList.map ρ) hb (by simp) (fun i v a hv ha => by
    simp only [List.getElem?_map, Option.map_eq_some_iff] at hv ha
    obtain ⟨y, hy, rfl⟩ := hv
    obtain ⟨z, hz, rfl⟩ := ha
    rw [hy] at hz
    cases hz
    exact hρ y (by
      have hm : y ∈ args := by rw [← Array.mem_toList_iff]; exact List.mem_of_getElem? hy
      simp only [Op.operands, Call.operands]
      exact Array.mem_append.2 (.inr hm)))
  have he : (args.toList.map ρ).toArray = args.map ρ := by apply Array.ext'; simp
  rw [he] at this
  refine Calls.mono this fun e w' hq => ?_
  obtain ⟨u, rfl, σ', gh', h1, h2⟩ := hq
  exact ⟨u, rfl, σ', gh', h1, resAV_rep h2⟩
def Gives (P : Program) (f : FuncId) (args : List DV) (e : TypeId) (sz : Nat) (xs : List (List D)) : Prop :=
  ∀ w σ vs, Sealed σ w → RepVs σ vs args → Calls P f vs.toArray w fun en w' => ∃ u σ' g, en = .returned u ∧ Base w σ σ' [g] [.row 0 e sz xs] w' ∧ HRep g sz xs.length 0 xs.length u
theorem op_callgive (x : Operand) (f : FuncId) (args : Array Operand) (ts : Array TypeId) (ds : List DV) {e : TypeId} {sz : Nat} {xs : List (List D)} (hx : E x = fnAV f) (hc : callable P f = true) (ha : argsDV (args.toList.map E) = some ds) (hi : Gives P f ds e sz xs) :
    OpS P (.call { callee := .value x, args := args, argTypes := ts }) E st (.h st.length 0 0 xs.length) (st ++ [.row 0 e sz xs]) := by
  intro o ho w0 σ0 σ gh ρ w hb hρ
  have hf := hρ x (by simp [Op.operands, Call.operands])
  rw [hx] at hf
  have hf := RepA_sc hf
  have hrun : (execOp ρ o).run P w = .ok (.enter f (args.map ρ)) w := by
    simp only [execOp, ho, resolve, hf, Deferred.ofValue, Sem.run_bind, Sem.run_pure, Result.andThen_ok, invoke]
    rw [show (#[] ++ Array.map ρ args ++ #[]) = Array.map ρ args by simp]
    exact callFunc_run hc (args.map ρ) w
  rw [hrun]
  have hvs : RepVs σ (args.toList.map ρ) ds := argsDV_rep ha (by simp) (fun i v a hv ha => by
    simp only [List.getElem?_map, Option.map_eq_some_iff] at hv ha
    obtain ⟨y, hy, rfl⟩ := hv
    obtain ⟨z, hz, rfl⟩ := ha
    rw [hy] at hz
    cases hz
    exact hρ y (by
      have hm : y ∈ args := by rw [← Array.mem_toList_iff]; exact List.mem_of_getElem? hy
      simp only [Op.operands, Call.operands]
      exact Array.mem_append.2 (.inr hm)))
  have := hi w σ _ hb.sl hvs
  have he : (args.toList.map ρ).toArray = args.map ρ := by apply Array.ext'; simp
  rw [he] at this
  refine Calls.mono this fun en w' hq => ?_
  obtain ⟨u, σ', g, rfl, h1, h2⟩ := hq
  have hle := hb.sl.le_of (w := w) h1.ext
  have hf1 := Fut.call hb h1.below h1.sl h1.ext
  have hob := h1.obj 0 _ g rfl rfl
  obtain ⟨vals, ⟨a1, a2⟩, hsz, hval, huns, hone⟩ := hob
  have hnew : ∀ b, blkOf g = some b → w.heap.size ≤ b := fun b hbk => by
    rcases a2 with ⟨e1, _⟩ | ⟨blk, cap, cur, e1, e2, _⟩
    · rw [e1] at hbk; simp [blkOf] at hbk
    · rw [e1] at hbk; simp [blkOf] at hbk; omega
  have hlow : w0.heap.size ≤ w.heap.size := hb.below.size
  have hf2 : Fut w0 σ0 σ' gh st σ' (gh ++ [g]) (st ++ [.row 0 e sz xs]) w' := by
    have b' := hf1.base
    refine ⟨⟨b'.below, b'.ext, b'.sl, by simp [b'.len], ?_, ?_, ?_⟩, fun v a h => h.push _ _⟩
    · intro s s' b hne k1 k2
      have cls : ∀ s, (gh ++ [g])[s]?.bind blkOf = some b → (gh[s]?.bind blkOf = some b ∧ b < w.heap.size) ∨ (s = gh.length ∧ blkOf g = some b) := by
        intro s h
        rw [List.getElem?_append] at h
        split at h
        · refine .inl ⟨h, ?_⟩
          cases hs : gh[s]? with
          | none => simp [hs] at h
          | some g' => rw [hs] at h; exact hb.lt s g' b hs h
        · rename_i hs
          by_cases e : s = gh.length
          · subst e; simp at h; exact .inr ⟨rfl, h⟩
          · have : s - gh.length ≠ 0 := by omega
            simp [List.getElem?_cons, this] at h
      rcases cls s k1 with ⟨a, c⟩ | ⟨a, c⟩ <;> rcases cls s' k2 with ⟨a', c'⟩ | ⟨a', c'⟩
      · exact hb.sep s s' b hne a a'
      · have := hnew b c'; omega
      · have := hnew b c; omega
      · omega
    · intro s g' b k1 k2
      rw [List.getElem?_append] at k1
      split at k1
      · exact b'.lt s g' b k1 k2
      · rename_i hs
        by_cases e : s - gh.length = 0
        · simp [e] at k1; subst k1; exact h1.lt 0 g b rfl k2
        · simp [List.getElem?_cons, e] at k1
    · intro s o g' k1 k2
      rw [List.getElem?_append] at k1 k2
      rw [← hf1.base.len] at k1
      split at k1
      · rename_i hs
        rw [if_pos hs] at k2
        exact (b'.obj s o g' k1 k2).grown (row := none) ⟨rfl, rfl, rfl, Nat.le_refl _, fun _ _ _ => rfl⟩ (fun _ _ h => by cases h) (fun v a h => h.push _ _)
      · rename_i hs
        rw [if_neg hs] at k2
        by_cases e : s - gh.length = 0
        · simp [e] at k1 k2
          subst k1 k2
          refine ⟨vals, ⟨a1, ?_⟩, hsz, hval, huns, hone⟩
          rcases a2 with a2 | ⟨blk, cap, cur, e1, e2, e3⟩
          · exact .inl a2
          · exact .inr ⟨blk, cap, cur, e1, by omega, e3⟩
        · simp [List.getElem?_cons, e] at k1
  refine ⟨u, rfl, σ', gh ++ [g], hf1.trans hf2, g, .row 0 e sz xs, ?_, by simp, fun k' e' sz' xs' heq => ?_⟩
  · rw [← hb.len]; simp
  · cases heq; exact ⟨Nat.le_refl _, fun _ => h2⟩
end
end Go.Proofs.Nw.K
end
section
/- K12: forgetting slots and own things; views of one thing as another. -/
open Go Go.RowKit
namespace Go.Proofs.Nw.K
def belowN (n : Nat) : AV → Bool
  | .ptr s _ => decide (s < n)
  | .h s _ _ _ => decide (s < n)
  | .ep s _ _ _ => decide (s < n)
  | .omap s => decide (s < n)
  | .clo _ caps => caps.all fun s => decide (s < n)
  | .pkg cs => cs.all fun c => match c with | .o s => decide (s < n) | .d _ => true
  | .bs s _ => decide (s < n)
  | _ => true
def objBelow (n : Nat) : AO → Bool
  | .box bT cells => cells.all (belowN n)
  | .mp es => es.all fun p => belowN n p.2
  | _ => true
universe u
theorem get_take {α : Type u} {l : List α} {s n : Nat} {a : α} (h : l[s]? = some a) (hs : s < n) : (l.take n)[s]? = some a := by
  rw [List.getElem?_take_of_lt hs]; exact h
theorem RepA.take {σ : Sig} {gh st} {v : Value} {a : AV} (h : RepA σ gh st v a) {n : Nat} (hn : belowN n a = true) : RepA σ (gh.take n) (st.take n) v a := by
  cases a with
  | v x => exact h
  | ptr s off => obtain ⟨b, h1, h2⟩ := h; exact ⟨b, get_take h1 (by simpa [belowN] using hn), h2⟩
  | h s k lo m => obtain ⟨g', o', h1, h2, h3⟩ := h; exact ⟨g', o', get_take h1 (by simpa [belowN] using hn), get_take h2 (by simpa [belowN] using hn), h3⟩
  | ep s k i off => obtain ⟨g', o', h1, h2, h3⟩ := h; exact ⟨g', o', get_take h1 (by simpa [belowN] using hn), get_take h2 (by simpa [belowN] using hn), h3⟩
  | omap s => exact ⟨get_take h.1 (by simpa [belowN] using hn), h.2⟩
  | tup vs => exact h
  | clo f caps =>
    obtain ⟨us, h1, h2, h3⟩ := h
    refine ⟨us, h1, h2, fun i u s hu hs => ⟨get_take (h3 i u s hu hs).1 ?_, (h3 i u s hu hs).2⟩⟩
    simp only [belowN, List.all_eq_true, decide_eq_true_eq] at hn
    exact hn s (List.mem_of_getElem? hs)
  | bs s m => obtain ⟨b, c, h1, h2⟩ := h; exact ⟨b, c, get_take h1 (by simpa [belowN] using hn), h2⟩
  | pkg cs =>
    obtain ⟨us, h1, h2, h3⟩ := h
    simp only [belowN, List.all_eq_true] at hn
    exact ⟨us, h1, h2, fun i u c hu hc => (h3 i u c hu hc).map (fun s e e2 _ => get_take e2 (by have := hn c (List.mem_of_getElem? hc); subst e; simpa using this)) ⟨fun _ _ _ h => h, fun _ _ h => h⟩⟩
  | junk => trivial
theorem take_get {α : Type u} {l : List α} {s n : Nat} {a : α} (h : (l.take n)[s]? = some a) : l[s]? = some a ∧ s < n := by
  rw [List.getElem?_take] at h
  split at h
  · exact ⟨h, ‹_›⟩
  · cases h
theorem Base.take {w0 : World} {σ0 σ gh st w} (hb : Base w0 σ0 σ gh st w) (n : Nat) (ho : ((st.take n).all (objBelow n)) = true) : Base w0 σ0 σ (gh.take n) (st.take n) w where
  below := hb.below
  ext := hb.ext
  sl := hb.sl
  len := by simp [hb.len]
  sep := fun s s' b hne h1 h2 => by
    cases e1 : (gh.take n)[s]? with
    | none => simp [e1] at h1
    | some x =>
      cases e2 : (gh.take n)[s']? with
      | none => simp [e2] at h2
      | some y =>
        rw [e1] at h1; rw [e2] at h2
        exact hb.sep s s' b hne (by rw [(take_get e1).1]; exact h1) (by rw [(take_get e2).1]; exact h2)
  lt := fun s g b h1 h2 => hb.lt s g b (take_get h1).1 h2
  obj := fun s o g h1 h2 => by
    have h3 := hb.obj s o g (take_get h1).1 (take_get h2).1
    have hob := List.all_eq_true.1 ho o (List.mem_of_getElem? h1)
    cases o with
    | box bT cells =>
      obtain ⟨b, vals, a1, a2, a3, a4, a5, a6, a7⟩ := h3
      refine ⟨b, vals, a1, a2, a3, a4, fun i v c hv hc => (a5 i v c hv hc).take ?_, a6, a7⟩
      simp only [objBelow, List.all_eq_true] at hob
      exact hob c (List.mem_of_getElem? hc)
    | row _ _ _ _ => exact h3
    | mp es =>
      obtain ⟨r, entries, clock, a1, a2, a3, a4, a5, a6⟩ := h3
      simp only [objBelow, List.all_eq_true] at hob
      exact ⟨r, entries, clock, a1, a2, a3, a4, fun i k d hk => let ⟨me, c1, c2, c3⟩ := a5 i k d hk; ⟨me, c1, c2, c3.take (hob (k, d) (List.mem_of_getElem? hk))⟩, a6⟩
    | brow _ _ => exact h3
    | gone => trivial
theorem Sub.slot {N : Fm} {env : Env} {st st' : List AO} (t : Nat) (v : AV) (h : ∀ w0 σ0 σ gh w u, Base w0 σ0 σ gh st w → RepA σ gh st u (env t) → ∃ σ' gh', Fut w0 σ0 σ gh st σ' gh' st' w ∧ RepA σ' gh' st' u v) :
    Sub N env st (upd env t v) st' := by
  intro w0 σ0 I a w ⟨hs, hd, hI, σ, gh, hb, hk, he⟩
  obtain ⟨σ', gh', hf, hv⟩ := h w0 σ0 σ gh w _ hb (he t)
  refine ⟨hs, hd, hI, σ', gh', hf.base, fun v a ha => hf.keep _ _ (hk v a ha), fun t' => ?_⟩
  simp only [upd]
  split
  · rename_i e; subst e; exact hv
  · exact hf.keep _ _ (he t')
theorem Sub.shut {N : Fm} {env : Env} {st : List AO} (t : Nat) (s k n e sz : Nat) (xs : List (List D)) (h : env t = .h s k 0 n) (hst : st[s]? = some (.row k e sz xs)) (hn : n = xs.length) : Sub N env st (upd env t (.list sz xs)) (st.set s .gone) :=
  Sub.slot t _ fun w0 σ0 σ gh w u hb hu => by
    rw [h] at hu
    obtain ⟨g, hg, hR, A, c, hv⟩ := h_val hb hst hu
    obtain ⟨σ', hf, hrep⟩ := seal_row hb hst hg
    refine ⟨σ', gh, hf, ?_⟩
    obtain ⟨h0, ⟨a1, a2, a3⟩ | ⟨b, m, c2, a1, a2, ⟨a3, a4, _⟩ | a3⟩⟩ := hR
    · rw [a3]; exact hrep
    · omega
    · subst hn
      obtain ⟨A', c', hgv, hc'⟩ := row_val hb hst hg
      rw [a1] at hgv
      injection hgv with e1 e2 e3
      subst e2
      have : u = g := by rw [a3, a1]; simp
      rw [this]; exact hrep
end Go.Proofs.Nw.K
end
section
/- K13: regions whose order is open: one run in the order of the text serves every order, where no operation turns an own thing. -/
open Go Go.RowKit
namespace Go.Proofs.Nw.K
theorem OpS.congr {P : Program} {op : Op} {E E' : Operand → AV} {st v st'} (h : OpS P op E st v st') (he : ∀ x ∈ op.operands, E' x = E x) : OpS P op E' st v st' :=
  fun o ho w0 σ0 σ gh ρ w hb hr => h o ho w0 σ0 σ gh ρ w hb fun x hx => by rw [← he x hx]; exact hr x hx
section
variable {P : Program} {N : Fm} {ops : Array Oper} {st : List AO} {md : Region.Mode}
def guardE (ops : Array Oper) (o : Oper) (env : Env) (b : Bool) : Prop :=
  match o.guard with
  | none => b = true
  | some (j, want) => ∃ (oj : Oper) (d : Nat) (c : Bool), ops[j]? = some oj ∧ oj.dst = some d ∧ d < N.n ∧ (env d = .bool c ∧ b = decide (c = want) ∨ env d = .tup [] ∧ b = false)
def EYields (P : Program) (N : Fm) (ops : Array Oper) (st : List AO) (o : Oper) (v : AV) (env : Env) : Prop :=
  (∀ d, o.dst = some d → d < N.n) ∧ ((guardE (N := N) ops o env true ∧ OpS P o.op (evalE env) st v st) ∨ (guardE (N := N) ops o env false ∧ v = .tup []))
theorem updO_other {env : Env} {dst : Option Tmp} {v : AV} {t : Nat} (h : ∀ d, dst = some d → d ≠ t) : updO env dst v t = env t := by
  cases dst with
  | none => rfl
  | some d => exact upd_other _ _ (fun e => h d rfl e.symm)
theorem EYields.keep {o : Oper} {v : AV} {env : Env} (hy : EYields P N ops st o v env) {dst : Option Tmp} {u : AV} (h : ∀ d, dst = some d → d ∉ o.looksAt ops) : EYields P N ops st o v (updO env dst u) := by
  have hE : ∀ x ∈ o.op.operands, evalE (updO env dst u) x = evalE env x := fun x hx => by
    cases x with
    | tmp t =>
      refine updO_other fun d hd e => h d hd ?_
      subst e
      exact List.mem_append_left _ (List.mem_filterMap.2 ⟨.tmp d, by simpa using hx, rfl⟩)
    | _ => rfl
  have hG : ∀ b, guardE (N := N) ops o env b → guardE (N := N) ops o (updO env dst u) b := fun b hg => by
    unfold guardE at *
    cases hgd : o.guard with
    | none => simp only [hgd] at hg ⊢; exact hg
    | some g =>
      obtain ⟨j, want⟩ := g
      simp only [hgd] at hg ⊢
      obtain ⟨oj, d, c, h1, h2, h3, h4⟩ := hg
      refine ⟨oj, d, c, h1, h2, h3, ?_⟩
      rw [updO_other]
      · exact h4
      · intro d' hd' e
        subst e
        exact h d' hd' (by simp [Oper.looksAt, hgd, h1, h2])
  refine ⟨hy.1, ?_⟩
  rcases hy.2 with ⟨hg, ho⟩ | ⟨hg, e⟩
  · exact .inl ⟨hG _ hg, ho.congr hE⟩
  · exact .inr ⟨hG _ hg, e⟩
theorem EYields.drop {o : Oper} {v : AV} {env : Env} {dst : Option Tmp} {u : AV} (hy : EYields P N ops st o v (updO env dst u)) (h : ∀ d, dst = some d → d ∉ o.looksAt ops) : EYields P N ops st o v env := by
  have hE : ∀ x ∈ o.op.operands, evalE env x = evalE (updO env dst u) x := fun x hx => by
    cases x with
    | tmp t =>
      refine (updO_other fun d hd e => h d hd ?_).symm
      subst e
      exact List.mem_append_left _ (List.mem_filterMap.2 ⟨.tmp d, by simpa using hx, rfl⟩)
    | _ => rfl
  have hG : ∀ b, guardE (N := N) ops o (updO env dst u) b → guardE (N := N) ops o env b := fun b hg => by
    unfold guardE at *
    cases hgd : o.guard with
    | none => simp only [hgd] at hg ⊢; exact hg
    | some g =>
      obtain ⟨j, want⟩ := g
      simp only [hgd] at hg ⊢
      obtain ⟨oj, d, c, h1, h2, h3, h4⟩ := hg
      refine ⟨oj, d, c, h1, h2, h3, ?_⟩
      rw [updO_other] at h4
      · exact h4
      · intro d' hd' e
        subst e
        exact h d' hd' (by simp [Oper.looksAt, hgd, h1, h2])
  refine ⟨hy.1, ?_⟩
  rcases hy.2 with ⟨hg, ho⟩ | ⟨hg, e⟩
  · exact .inl ⟨hG _ hg, ho.congr hE⟩
  · exact .inr ⟨hG _ hg, e⟩
end
end Go.Proofs.Nw.K
end
section
/- K14: more operations: typed lists, quotients, bytes and strings, structs held against each other. -/
open Go Go.RowKit
namespace Go.Proofs.Nw.K
section
variable {P : Program} {E : Operand → AV} {st : List AO}
theorem tl_list {σ : Sig} {gh} {u : Value} {α : Type} {sz : Nat} {enc : α → List D} {z : α} {xs : List α} (h : RepA σ gh st u (.d (.tl α sz enc z xs))) : RepA σ gh st u (.list sz (xs.map enc)) := by
  have h : Rep σ u (.tl α sz enc z xs) := h
  cases h with
  | tl h => exact h
theorem OpS.of_list {op : Op} {v st'} (E' : Operand → AV) (h : OpS P op E' st v st') (he : ∀ x, E' x = E x ∨ ∃ (α : Type) (sz : Nat) (enc : α → List D) (z : α) (xs : List α), E x = .d (.tl α sz enc z xs) ∧ E' x = .list sz (xs.map enc)) : OpS P op E st v st' :=
  fun o ho w0 σ0 σ gh ρ w hb hr => h o ho w0 σ0 σ gh ρ w hb fun x hx => by
    rcases he x with h1 | ⟨α, sz, enc, z, xs, h1, h2⟩
    · rw [h1]; exact hr x hx
    · rw [h2]; have := hr x hx; rw [h1] at this; exact tl_list this
def unT : AV → AV
  | .v (.one (.tl α sz enc z xs)) => .list sz (xs.map enc)
  | a => a
theorem unT_spec (a : AV) : unT a = a ∨ ∃ (α : Type) (sz : Nat) (enc : α → List D) (z : α) (xs : List α), a = .d (.tl α sz enc z xs) ∧ unT a = .list sz (xs.map enc) := by
  unfold unT
  split
  · exact .inr ⟨_, _, _, _, _, rfl, rfl⟩
  · exact .inl rfl
theorem OpS.unT {op : Op} {v st'} (h : OpS P op (fun x => unT (E x)) st v st') : OpS P op E st v st' :=
  h.of_list _ fun x => unT_spec (E x)
theorem op_indexAddr_tl (t e : TypeId) (x i : Operand) (k : IntKind) (n : Int) (α : Type) (sz : Nat) (enc : α → List D) (z : α) (xs : List α) (ht : elT P t = some (e, sz)) (hx : E x = .d (.tl α sz enc z xs)) (hi : E i = .sc (.int k n))
    (h0 : 0 ≤ n) (h1 : n < xs.length) : OpS P (.indexAddr t x i) E st (.d (.ref (enc (xs.getD n.toNat z)))) st := by
  refine OpS.unT (op_indexAddr t e sz x i k n (xs.map enc) _ ht (by simp [K.unT, hx]) (by simp [K.unT, hi]) h0 ?_)
  have : n.toNat < xs.length := by omega
  simp [List.getD, this]
theorem tl_of {σ : Sig} {gh} {u : Value} {α : Type} {sz : Nat} {enc : α → List D} (z : α) {xs : List α} {ys : List (List D)} (h : RepA σ gh st u (.list sz ys)) (e : ys = xs.map enc) : RepA σ gh st u (.d (.tl α sz enc z xs)) := by
  subst e
  exact Rep.tl h
theorem op_slice_tl (t e : TypeId) (x : Operand) (lo hi : Option Operand) (l h : Nat) (α : Type) (sz : Nat) (enc : α → List D) (z : α) (xs : List α) (ht : elT P t = some (e, sz)) (hx : E x = .d (.tl α sz enc z xs))
    (hl : loIs E l lo) (hh : hiIs E xs.length h hi) (h1 : l ≤ h) (h2 : h ≤ xs.length) : OpS P (.slice t x lo hi none) E st (.d (.tl α sz enc z ((xs.take h).drop l))) st := by
  intro o ho w0 σ0 σ gh ρ w hb hρ
  have hop : OpS P (.slice t x lo hi none) E st (.list sz (((xs.map enc).take h).drop l)) st := by
    refine OpS.unT (op_slice_list t e sz x lo hi l h (xs.map enc) ht (by simp [K.unT, hx]) ?_ ?_ h1 (by simpa using h2))
    · cases lo with
      | none => exact hl
      | some ol => obtain ⟨m, f1, f2, f3⟩ := hl; exact ⟨m, by simp [K.unT, f1], f2, f3⟩
    · cases hi with
      | none => simpa [hiIs] using hh
      | some ol => obtain ⟨m, f1, f2, f3⟩ := hh; exact ⟨m, by simp [K.unT, f1], f2, f3⟩
  have := hop o ho w0 σ0 σ gh ρ w hb hρ
  generalize (execOp ρ o).run P w = r at *
  cases r with
  | ok n w' =>
    cases n with
    | value u =>
      obtain ⟨σ', gh', hf, hv⟩ := this
      exact ⟨σ', gh', hf, tl_of z hv (by simp)⟩
    | skip => obtain ⟨h, _⟩ := this; cases h
    | enter f args => exact Calls.mono this fun e w'' ⟨u, h1, σ', gh', hf, hv⟩ => ⟨u, h1, σ', gh', hf, tl_of z hv (by simp)⟩
    | _ => exact this.elim
  | halt _ _ => exact this.elim
theorem op_quo (t ty : TypeId) (x y : Operand) (k : IntKind) (a b : Int) (hx : E x = .sc (.int k a)) (hy : E y = .sc (.int k b)) (h : b ≠ 0) : OpS P (.binOp .quo t x y ty) E st (.sc (.int k (k.wrap (a.tdiv b)))) st :=
  op_bin _ _ _ _ _ _ _ _ hx hy (fun w => by simp [binOp_quo, Op.intDiv, h]) (by simp [eqGuard_at_int]) rfl
theorem op_rem (t ty : TypeId) (x y : Operand) (k : IntKind) (a b : Int) (hx : E x = .sc (.int k a)) (hy : E y = .sc (.int k b)) (h : b ≠ 0) : OpS P (.binOp .rem t x y ty) E st (.sc (.int k (a.tmod b))) st :=
  op_bin _ _ _ _ _ _ _ _ hx hy (fun w => by simp [binOp_rem, Op.intDiv, h]) (by simp [eqGuard_at_int]) rfl
def byteRow (n : Int) : List D := [.sc (.int .u8 n)]
theorem run_bytesToString (w : World) (A : Option Addr) (c : Nat) (ns : List Int) (h : ns = [] ∨ ∃ ad, A = some ad ∧ ∀ (j : Nat) v, (ns.map fun n => Value.int .u8 n)[j]? = some v → w.cell? (ad.add j) = some v) :
    (Conv.bytesToString (.slice A ns.length c)).run P w = .ok (.string ⟨(ns.map fun n => UInt8.ofNat n.toNat).toArray⟩) w := by
  have key : ∀ (l : List Int) (s : ByteArray), List.foldl (fun (b : ByteArray) (a : Int) => b.push (UInt8.ofNat a.toNat)) s l = ⟨s.data ++ (l.map fun n => UInt8.ofNat n.toNat).toArray⟩ := by
    intro l
    induction l with
    | nil => intro s; simp
    | cons n l ih =>
      intro s
      simp only [List.map_cons, List.foldl_cons]
      rw [ih]
      congr 1
      apply Array.ext'
      simp [ByteArray.push]
  rcases h with rfl | ⟨ad, rfl, hc⟩
  · cases A with
    | none => simp [Conv.bytesToString]; rfl
    | some ad => simp [Conv.bytesToString, loadCells, loadCellsFrom]; rfl
  · have hl := run_loadCells_list (P := P) w ad (ns.map fun n => Value.int .u8 n) hc
    simp only [List.length_map] at hl
    simp only [Conv.bytesToString, Sem.run_bind, hl, Result.andThen_ok]
    rw [← Array.forIn_toList]
    have := key ns ByteArray.empty
    simp [this]
theorem op_bytesToString (s d e : TypeId) (x : Operand) (ns : List Int) (hs : P.underlying s = some (.slice e)) (he : P.underlying e = some (.int .u8)) (hd : P.underlying d = some .string) (hx : Src st (E x) 1 (ns.map byteRow)) :
    OpS P (.convert s d x) E st (.str ⟨(ns.map fun n => UInt8.ofNat n.toNat).toArray⟩) st :=
  op_pure fun o ho w0 σ0 σ gh ρ w hb hρ => by
    have h1 := hρ x (by simp [Op.operands])
    obtain ⟨A, c, hv, hc⟩ := src_cells hb h1 hx
    simp only [List.length_map] at hv hc
    have hrun := run_bytesToString (P := P) w A c ns (by
      rcases hc with h | ⟨ad, news, h2, h3, h4, h5, h6⟩
      · exact .inl (by simpa using h)
      · refine .inr ⟨ad, h2, fun j v hj => h4 j v ?_⟩
        simp only [List.getElem?_map, Option.map_eq_some_iff] at hj
        obtain ⟨n, hn, rfl⟩ := hj
        obtain ⟨v, h7, h8⟩ := h6.2 j 0 (byteRow n) (.sc (.int .u8 n)) (by simp [hn]) rfl
        cases h8
        simpa using h7)
    exact ⟨_, by simp [execOp, ho, convert, run_underlying hs, run_underlying hd, run_underlying he, hv, hrun], RepA_of_sc rfl⟩
def strFields (P : Program) (n : Nat) : List Field → Bool
  | [] => true
  | f :: r => f.name != "_" && f.offset == n && (match P.underlying f.type with | some .string => true | _ => false) && strFields P (n + 1) r
def strStruct (P : Program) (t : TypeId) : Option Nat :=
  match P.underlying t with
  | some (.struct fs) => if strFields P 0 fs.toList && !P.stoodInHeld t && !P.eqGuardType P.depth t then some fs.size else none
  | _ => none
def strsOf : List D → Option (List ByteArray)
  | [] => some []
  | .sc (.string s) :: r => match strsOf r with | some ss => some (s :: ss) | none => none
  | _ => none
def eqStrs : List ByteArray → List ByteArray → Bool
  | [], [] => true
  | a :: x, b :: y => (a.toList == b.toList) && eqStrs x y
  | _, _ => false
theorem strsOf_rep {σ : Sig} : ∀ {ds : List D} {ss : List ByteArray} {vs : List Value}, strsOf ds = some ss → RepL σ vs ds → vs = ss.map Value.string
  | [], ss, vs, h, hr => by cases h; exact List.eq_nil_of_length_eq_zero hr.1
  | d :: ds, ss, vs, h, hr => by
    unfold strsOf at h
    split at h
    · rename_i heq; cases heq
    · rename_i s r heq
      cases heq
      split at h <;> try cases h
      rename_i ss' hss
      cases vs with
      | nil => have := hr.1; simp at this
      | cons v vs =>
        have h0 := hr.2 0 v _ rfl rfl
        cases h0
        rw [strsOf_rep (vs := vs) hss ⟨by have := hr.1; simpa using this, fun i v d hv hd => hr.2 (i + 1) v d (by simpa using hv) (by simpa using hd)⟩]
        rfl
    · cases h
theorem eqFields_run {w : World} (d : Nat) : ∀ (fs : List Field) (n : Nat) (pre1 pre2 a b : List ByteArray), strFields P n fs = true → pre1.length = n → pre2.length = n → a.length = fs.length → b.length = fs.length →
    (Op.eqFields (d + 1) ((pre1 ++ a).map Value.string).toArray ((pre2 ++ b).map Value.string).toArray fs).run P w = .ok (eqStrs a b) w
  | [], n, pre1, pre2, a, b, h, h1, h2, h3, h4 => by
    have : a = [] := List.eq_nil_of_length_eq_zero h3
    have : b = [] := List.eq_nil_of_length_eq_zero h4
    subst a b
    simp [Op.eqFields, eqStrs]
  | f :: fs, n, pre1, pre2, a, b, h, h1, h2, h3, h4 => by
    unfold strFields at h
    simp only [Bool.and_eq_true, bne_iff_ne, beq_iff_eq] at h
    obtain ⟨⟨⟨e1, e2⟩, e3⟩, e4⟩ := h
    cases a with
    | nil => simp at h3
    | cons x a =>
      cases b with
      | nil => simp at h4
      | cons y b =>
        have hu : P.underlying f.type = some .string := by
          split at e3
          · assumption
          · cases e3
        have hp : ∀ (pre : List ByteArray) (z : ByteArray) (c : List ByteArray), pre.length = n → (part f.type ((pre ++ z :: c).map Value.string).toArray f.offset).run P w = .ok (.string z) w := by
          intro pre z c hl
          have hg : (((pre ++ z :: c).map Value.string).toArray)[f.offset]? = some (.string z) := by
            rw [e2, ← hl]; simp
          simp only [part, isAgg, Sem.run_bind, run_underlying hu, Result.andThen_ok, Sem.run_pure, Bool.false_eq_true, if_false, hg]
        simp only [Op.eqFields, e1, ne_eq, not_false_eq_true, if_true, Sem.run_bind, hp pre1 x a h1, hp pre2 y b h2, Result.andThen_ok, run_equalIn_string w d f.type x y hu]
        by_cases hxy : x.toList == y.toList
        · have ih := eqFields_run (w := w) d fs (n + 1) (pre1 ++ [x]) (pre2 ++ [y]) a b e4 (by simp [h1]) (by simp [h2]) (by simpa using h3) (by simpa using h4)
          simp only [List.append_assoc, List.singleton_append] at ih
          simp only [hxy, Bool.not_true, Bool.false_eq_true, if_false, ih, eqStrs, Bool.true_and]
        · simp [hxy, eqStrs]
end
def strF2 (P : Program) (n : Nat) : List Field → Option Nat
  | [] => some n
  | f :: r => match f.name != "_" && f.offset == n with
    | true => match P.underlying f.type with
      | some .string => strF2 P (n + 1) r
      | some (.struct _) => match strStruct P f.type with
        | some k => match P.info? f.type with
          | some i => match i.size == k with
            | true => strF2 P (n + k) r
            | false => none
          | none => none
        | none => none
      | _ => none
    | false => none
theorem eqStrs_app : ∀ (a b c d : List ByteArray), a.length = b.length → eqStrs (a ++ c) (b ++ d) = (eqStrs a b && eqStrs c d)
  | [], [], c, d, _ => by simp [eqStrs]
  | x :: a, y :: b, c, d, h => by
    simp only [List.cons_append, eqStrs, eqStrs_app a b c d (by simpa using h), Bool.and_assoc]
  | [], _ :: _, _, _, h => by simp at h
  | _ :: _, [], _, _, h => by simp at h
theorem eqF2_run {P : Program} {w : World} (d : Nat) : ∀ (fs : List Field) (n m : Nat) (pre1 pre2 a b : List ByteArray), strF2 P n fs = some m → pre1.length = n → pre2.length = n → n + a.length = m → n + b.length = m →
    (Op.eqFields (d + 2) ((pre1 ++ a).map Value.string).toArray ((pre2 ++ b).map Value.string).toArray fs).run P w = .ok (eqStrs a b) w
  | [], n, m, pre1, pre2, a, b, h, h1, h2, h3, h4 => by
    cases h
    have : a = [] := List.eq_nil_of_length_eq_zero (by omega)
    have : b = [] := List.eq_nil_of_length_eq_zero (by omega)
    subst a b
    simp [Op.eqFields, eqStrs]
  | f :: fs, n, m, pre1, pre2, a, b, h, h1, h2, h3, h4 => by
    have mono : ∀ (fs : List Field) (n m : Nat), strF2 P n fs = some m → n ≤ m := by
      intro fs
      induction fs with
      | nil => intro n m h; cases h; exact Nat.le_refl _
      | cons f fs ih =>
        intro n m h
        unfold strF2 at h
        split at h <;> try cases h
        split at h <;> try cases h
        · have := ih _ _ h; omega
        · split at h <;> try cases h
          split at h <;> try cases h
          split at h <;> try cases h
          have := ih _ _ h; omega
    unfold strF2 at h
    split at h <;> try cases h
    rename_i hc
    simp only [Bool.and_eq_true, bne_iff_ne, beq_iff_eq] at hc
    obtain ⟨e1, e2⟩ := hc
    split at h <;> try cases h
    · rename_i hu
      have hm := mono _ _ _ h
      cases a with
      | nil => simp at h3; omega
      | cons x a =>
        cases b with
        | nil => simp at h4; omega
        | cons y b =>
          have hp : ∀ (pre : List ByteArray) (z : ByteArray) (c : List ByteArray), pre.length = n → (part f.type ((pre ++ z :: c).map Value.string).toArray f.offset).run P w = .ok (.string z) w := by
            intro pre z c hl
            have hg : (((pre ++ z :: c).map Value.string).toArray)[f.offset]? = some (.string z) := by
              rw [e2, ← hl]; simp
            simp only [part, isAgg, Sem.run_bind, run_underlying hu, Result.andThen_ok, Sem.run_pure, Bool.false_eq_true, if_false, hg]
          simp only [Op.eqFields, e1, ne_eq, not_false_eq_true, if_true, Sem.run_bind, hp pre1 x a h1, hp pre2 y b h2, Result.andThen_ok, run_equalIn_string w (d + 1) f.type x y hu]
          by_cases hxy : x.toList == y.toList
          · have ih := eqF2_run (P := P) (w := w) d fs (n + 1) m (pre1 ++ [x]) (pre2 ++ [y]) a b h (by simp [h1]) (by simp [h2]) (by simp at h3; omega) (by simp at h4; omega)
            simp only [List.append_assoc, List.singleton_append] at ih
            simp only [hxy, Bool.not_true, Bool.false_eq_true, if_false, ih, eqStrs, Bool.true_and]
          · simp [hxy, eqStrs]
    · rename_i fs1 hu
      split at h <;> try cases h
      rename_i k hk
      split at h <;> try cases h
      rename_i i hi
      split at h <;> try cases h
      rename_i hik
      have hik : i.size = k := by simpa using hik
      have hm := mono _ _ _ h
      obtain ⟨a1, a2, rfl, la⟩ : ∃ a1 a2, a = a1 ++ a2 ∧ a1.length = k := ⟨a.take k, a.drop k, (List.take_append_drop k a).symm, by rw [List.length_take]; omega⟩
      obtain ⟨b1, b2, rfl, lb⟩ : ∃ b1 b2, b = b1 ++ b2 ∧ b1.length = k := ⟨b.take k, b.drop k, (List.take_append_drop k b).symm, by rw [List.length_take]; omega⟩
      have hp : ∀ (pre x c : List ByteArray), pre.length = n → x.length = k → (part f.type ((pre ++ (x ++ c)).map Value.string).toArray f.offset).run P w = .ok (.agg (x.map Value.string).toArray) w := by
        intro pre x c hl hx
        have he : (((pre ++ (x ++ c)).map Value.string).toArray).extract f.offset (f.offset + i.size) = (x.map Value.string).toArray := by
          rw [e2, hik, List.map_append, List.map_append]
          apply Array.ext'
          simp only [Array.toList_extract, List.extract_eq_take_drop]
          rw [List.drop_append_of_le_length (by simp [hl]), List.drop_of_length_le (by simp [hl])]
          simp [hx]
        simp only [part, isAgg, Sem.run_bind, run_underlying hu, Result.andThen_ok, Sem.run_pure, if_true, sizeOf, typeInfo, run_program, hi, he]
      unfold strStruct at hk
      split at hk <;> try cases hk
      rename_i fs2 hu2
      by_cases hc2 : (strFields P 0 fs2.toList && !P.stoodInHeld f.type && !P.eqGuardType P.depth f.type) = true
      case neg => rw [if_neg hc2] at hk; cases hk
      rw [if_pos hc2] at hk
      have hk := Option.some.inj hk
      simp only [Bool.and_eq_true, Bool.not_eq_true'] at hc2
      obtain ⟨⟨c1, c2⟩, c3⟩ := hc2
      have hS : P.underlying f.type = some (.struct (P.fieldsOf f.type)) := by simp [Program.fieldsOf, hu2]
      have hfs : P.fieldsOf f.type = fs2 := by simp [Program.fieldsOf, hu2]
      have hr := eqFields_run (P := P) (w := w) d fs2.toList 0 [] [] a1 b1 c1 rfl rfl (by rw [la, ← hk]; simp) (by rw [lb, ← hk]; simp)
      simp only [List.nil_append] at hr
      have heq : (Op.equalIn (d + 2) f.type (.agg (a1.map Value.string).toArray) (.agg (b1.map Value.string).toArray)).run P w = .ok (eqStrs a1 b1) w := by
        rw [show d + 2 = (d + 1) + 1 from rfl, run_equalIn_agg w (d + 1) f.type _ _ hS c2, hfs]; exact hr
      rw [eqStrs_app a1 b1 a2 b2 (by omega)]
      simp only [Op.eqFields, e1, ne_eq, not_false_eq_true, if_true, Sem.run_bind, hp pre1 a1 a2 h1 la, hp pre2 b1 b2 h2 lb, Result.andThen_ok, heq]
      by_cases hxy : eqStrs a1 b1 = true
      · have ih := eqF2_run (P := P) (w := w) d fs (n + k) m (pre1 ++ a1) (pre2 ++ b1) a2 b2 h (by simp [h1, la]) (by simp [h2, lb]) (by simp at h3; omega) (by simp at h4; omega)
        simp only [List.append_assoc] at ih
        simp only [hxy, Bool.not_true, Bool.false_eq_true, if_false, ih, Bool.true_and]
      · simp [hxy]
def strStruct2 (P : Program) (t : TypeId) : Option Nat :=
  match P.underlying t with
  | some (.struct fs) => if !P.stoodInHeld t && !P.eqGuardType P.depth t then strF2 P 0 fs.toList else none
  | _ => none
section
variable {P : Program} {E : Operand → AV} {st : List AO}
theorem op_aggeq2 (neg : Bool) (t ty : TypeId) (x y : Operand) (n : Nat) (cs ds : List D) (a b : List ByteArray) (ht : strStruct2 P t = some n) (hx : E x = .agg cs) (hy : E y = .agg ds) (ha : strsOf cs = some a) (hb : strsOf ds = some b)
    (hla : a.length = n) (hlb : b.length = n) : OpS P (.binOp (if neg then .neq else .eql) t x y ty) E st (.bool (if neg then !eqStrs a b else eqStrs a b)) st :=
  op_pure fun o ho w0 σ0 σ gh ρ w hbase hρ => by
    have h1 := hρ x (by simp [Op.operands])
    have h2 := hρ y (by simp [Op.operands])
    rw [hx] at h1
    rw [hy] at h2
    obtain ⟨us, e1, r1⟩ := h1
    obtain ⟨vs, e2, r2⟩ := h2
    have e3 := strsOf_rep ha r1
    have e4 := strsOf_rep hb r2
    subst e3 e4
    unfold strStruct2 at ht
    split at ht <;> try cases ht
    rename_i fs hu
    by_cases hc : (!P.stoodInHeld t && !P.eqGuardType P.depth t) = true
    case neg => rw [if_neg hc] at ht; cases ht
    rw [if_pos hc] at ht
    simp only [Bool.and_eq_true, Bool.not_eq_true'] at hc
    obtain ⟨c2, c3⟩ := hc
    have hS : P.underlying t = some (.struct (P.fieldsOf t)) := by simp [Program.fieldsOf, hu]
    have hfs : P.fieldsOf t = fs := by simp [Program.fieldsOf, hu]
    have hr := eqF2_run (P := P) (w := w) 9997 fs.toList 0 n [] [] a b ht rfl rfl (by omega) (by omega)
    simp only [List.nil_append] at hr
    have heq : (Op.equalIn 10000 t (.agg (a.map Value.string).toArray) (.agg (b.map Value.string).toArray)).run P w = .ok (eqStrs a b) w := by
      rw [show (10000 : Nat) = 9999 + 1 from rfl, run_equalIn_agg w 9999 t _ _ hS c2, hfs]; exact hr
    have hg : ∀ op, (eqGuard op t x y (.agg (a.map Value.string).toArray) (.agg (b.map Value.string).toArray)).run P w = .ok () w := fun op => run_eqGuard_agg w op t x y _ _ c3
    cases neg
    · refine ⟨.bool (eqStrs a b), ?_, RepA_of_sc rfl⟩
      simp only [execOp, ho, e1, e2, Bool.false_eq_true, if_false, Sem.run_bind, hg, Result.andThen_ok, run_eql_struct, heq, Sem.run_pure]
    · refine ⟨.bool (!eqStrs a b), ?_, RepA_of_sc rfl⟩
      simp only [execOp, ho, e1, e2, if_true, Sem.run_bind, hg, Result.andThen_ok, run_neq_struct, heq, Sem.run_pure]
end
end Go.Proofs.Nw.K
end
section
/- K20: strings appended to bytes; pointers checked, compared, seen as others. -/
open Go Go.RowKit
namespace Go.Proofs.Nw.K
def strRows (s : ByteArray) : List (List D) := s.data.toList.map fun b => [.sc (.int .u8 b.toNat)]
theorem strRows_length (s : ByteArray) : (strRows s).length = s.size := by
  simp only [strRows, List.length_map, Array.length_toList]; rfl
theorem strCells_rows {σ : Sig} (s : ByteArray) : RepRows σ (Lib.strCells s) 1 (strRows s) := by
  refine ⟨fun i x hx => ?_, fun i j x d hx hd => ?_⟩
  · simp only [strRows, List.getElem?_map, Option.map_eq_some_iff] at hx
    obtain ⟨b, _, rfl⟩ := hx; rfl
  · simp only [strRows, List.getElem?_map, Option.map_eq_some_iff] at hx
    obtain ⟨b, hb, rfl⟩ := hx
    cases j with
    | zero =>
      simp at hd; subst hd
      exact ⟨.int .u8 b.toNat, by simp only [Lib.strCells, List.getElem?_map, Nat.mul_one, Nat.add_zero, hb, Option.map_some], .sc rfl⟩
    | succ j => simp at hd
def byteT (P : Program) (t : TypeId) : Option TypeId :=
  match P.underlying t with
  | some (.slice e) => match P.info? e with
    | some i => match i.zero with
      | some (.int .u8 0) => if i.size = 1 ∧ i.bytes = 1 then some e else none
      | _ => none
    | none => none
  | _ => none
theorem byteT_spec {P : Program} {t e : TypeId} (h : byteT P t = some e) : P.underlying t = some (.slice e) ∧ ∃ i, P.info? e = some i ∧ i.zero = some (.int .u8 0) ∧ i.size = 1 ∧ i.bytes = 1 := by
  unfold byteT at h
  split at h
  · rename_i e' hu
    split at h
    · rename_i i hi
      split at h
      · rename_i hz
        split at h
        · rename_i hc; cases h; exact ⟨hu, i, hi, hz, hc.1, hc.2⟩
        · cases h
      · cases h
    · cases h
  · cases h
theorem appendsAt_string {P : Program} {w : World} {σ : Sig} {t u ty e : TypeId} (ht : byteT P t = some e) (hu : P.underlying u = some .string) (s : ByteArray) (n : Nat)
    (hbytes : n + s.size ≤ 140737488351232) : AppendsAt P w t u ty e 1 σ (.string s) (strRows s) n := by
  intro base v vals hown hbase
  obtain ⟨hu', i, hi, hz, hsz, hby⟩ := byteT_spec ht
  have hm : n + s.size ≤ maxLen := by simp only [maxLen]; omega
  obtain ⟨v', w', hr, ho, hg, hnil⟩ := Lib.run_append_own_string (P := P) w base t u ty e i hu' hu hi hz hsz hby v n vals hown s hm (by omega) hbase
  refine ⟨v', w', Lib.strCells s, hr, by rw [strRows_length]; exact ho, hg, ?_, strCells_rows s, Lib.strCells_oneCell s⟩
  have det : ∀ {v'' w''}, (Builtin.append_ #[t, u] ty #[v, .string s]).run P w = .ok v'' w'' → v' = v'' := fun h => by rw [hr] at h; cases h; rfl
  rcases hown.2 with ⟨rfl, h0⟩ | ⟨g, cap, cur, rfl, hbg, hgw, hnc, hcm, hcs, htake⟩
  · by_cases hs : s.size = 0
    · left; rw [(hnil.2 ⟨rfl, hs⟩)]
    · right
      have := det (run_append_nil_string (P := P) w t u ty e i (.int .u8 0) hu' hu hi hz s (by omega) (by omega) (by rw [hby]; omega))
      rw [this]; rfl
  · by_cases hroom : n + s.size ≤ cap
    · left
      have := det (Lib.run_append_room_string (P := P) w t u ty e i hu' hu hi hsz g n cap cur hgw s hroom (by omega))
      rw [this]; rfl
    · right
      have hxl : vals.length = n := by simpa using hown.1
      have := det (Lib.run_append_grow_string (P := P) w t u ty e i (.int .u8 0) hu' hu hi hz ⟨g, 0, none⟩ n cap vals (by rw [hsz]; simpa using hxl) (hown.cells (g := g) rfl) s (by omega) (by omega) (by rw [hby]; exact growslice_fits (by omega) (by omega)))
      rw [this]; rfl
section
variable {P : Program} {E : Operand → AV} {st : List AO}
theorem op_appendS_nils (t u e : TypeId) (x y : Operand) (s : ByteArray) (ht : byteT P t = some e) (hu : P.underlying u = some .string) (hx : E x = .nils) (hy : E y = .str s) (hbytes : s.size ≤ 140737488351232) :
    OpS P (.call { callee := .builtin .append, args := #[x, y], argTypes := #[t, u] }) E st (.h st.length 0 0 (strRows s).length) (st ++ [.row 0 e 1 (strRows s)]) :=
  op_append_nils_ t u e 1 x y (strRows s) hx fun w0 σ0 σ gh w val ty hb h2 => by
    rw [hy] at h2
    have := RepA_sc h2
    subst this
    exact appendsAt_string ht hu s 0 (by omega)
theorem op_appendS_h (t u e : TypeId) (x y : Operand) (s : ByteArray) (r k n : Nat) (xs : List (List D)) (ht : byteT P t = some e) (hu : P.underlying u = some .string) (hx : E x = .h r k 0 n) (hst : st[r]? = some (.row k e 1 xs)) (hy : E y = .str s)
    (hbytes : n + s.size ≤ 140737488351232) :
    OpS P (.call { callee := .builtin .append, args := #[x, y], argTypes := #[t, u] }) E st (.h r (k + 1) 0 (n + (strRows s).length)) (st.set r (.row (k + 1) e 1 (xs.take n ++ strRows s))) :=
  op_append_h_ t u e 1 x y r k n xs (strRows s) hx hst fun w0 σ0 σ gh w val ty hb h2 => by
    rw [hy] at h2
    have := RepA_sc h2
    subst this
    exact appendsAt_string ht hu s n (by omega)
theorem op_nilCheck_ptr (x : Operand) (s off : Nat) (hx : E x = .ptr s off) : OpS P (.nilCheck x) E st (.ptr s off) st :=
  op_pure fun o ho w0 σ0 σ gh ρ w hb hρ => by
    have h1 := hρ x (by simp [Op.operands])
    rw [hx] at h1
    obtain ⟨b, h2, h3⟩ := h1
    exact ⟨ρ x, by simp [execOp, ho, h3], b, h2, h3⟩
theorem op_nilCheck_ref (x : Operand) (cells : List D) (hx : E x = .d (.ref cells)) : OpS P (.nilCheck x) E st (.d (.ref cells)) st :=
  op_pure fun o ho w0 σ0 σ gh ρ w hb hρ => by
    have h1 := hρ x (by simp [Op.operands])
    rw [hx] at h1
    refine ⟨ρ x, ?_, h1⟩
    have h1' : Rep σ (ρ x) (.ref cells) := h1
    simp only [execOp, ho]
    generalize ρ x = v at h1' ⊢
    cases h1' with
    | ref val hcell hval => rfl
theorem op_append_full (t e : TypeId) (sz by_ : Nat) (x y : Operand) (xs ys : List (List D)) (ht : appT P t = some (e, sz, by_)) (hx : E x = .d (.full sz xs)) (hy : Src st (E y) sz ys) (hne : ys ≠ []) (hxe : xs ≠ [])
    (hbound : (xs.length + ys.length) * by_ ≤ 140737488355328) (hmax : xs.length + ys.length ≤ maxLen) :
    OpS P (.call { callee := .builtin .append, args := #[x, y], argTypes := #[t, t] }) E st (.h st.length 0 0 (xs.length + ys.length)) (st ++ [.row 0 e sz (xs ++ ys)]) := by
  intro o ho w0 σ0 σ gh ρ w hb hρ
  have h1 := hρ x (by simp [Op.operands, Call.operands])
  have h2 := hρ y (by simp [Op.operands, Call.operands])
  rw [hx] at h1
  obtain ⟨hu, i, z, hi, hz, hsz, hby, hzs, hpos⟩ := appT_spec ht
  have h1f : Rep σ (ρ x) (.full sz xs) := h1
  have h1l : RepA σ gh st (ρ x) (.list sz xs) := full_list h1f
  obtain ⟨A, c, hv, hc⟩ := src_cells hb h1l .list
  have hcap : c = xs.length := by
    generalize ρ x = u at h1f hv
    cases h1f with
    | full _ hc' => exact hc' _ _ _ hv
  obtain ⟨A2, c2, hv2, hc2⟩ := src_cells hb h2 hy
  rcases hc with hc | ⟨ad, olds, hA, hl, holds, hone, hrows⟩
  · exact absurd hc hxe
  rcases hc2 with hc2 | ⟨ad2, news, hA2, hl2, hnews, hone2, hrows2⟩
  · exact absurd hc2 hne
  subst hA hA2 hcap
  have hy0 : 0 < ys.length := by cases ys with | nil => exact absurd rfl hne | cons _ _ => simp
  have h63 : xs.length + ys.length ≤ 9223372036854775807 := by simp only [maxLen] at hmax; omega
  have hr := run_append_grow (P := P) w t o.type e i z hu hi hz ad xs.length xs.length olds (by rw [hsz]; exact hl) holds ad2 ys.length c2 news (by rw [hsz]; exact hl2) hnews (by omega) (by omega)
    (by rw [hby]; exact growslice_fits (by omega) hbound)
  have hrun : (execOp ρ o).run P w = .ok (.value (.slice (some ⟨w.heap.size, 0, none⟩) (xs.length + ys.length) (grownCap w (xs.length + ys.length) xs.length e)))
        (w.drew.alloc (.cells (olds.toArray ++ news.toArray ++ Builtin.zeroCells z.cells (grownCap w (xs.length + ys.length) xs.length e - (xs.length + ys.length))) e)) := by
    simp [execOp, ho, resolve, invoke, builtin, hv, hv2, hr]
  rw [hrun]
  have hge := grownCap_ge w (xs.length + ys.length) xs.length e
  have hcm := grownCap_le_maxLen w (xs.length + ys.length) xs.length e hmax
  generalize hG : grownCap w (xs.length + ys.length) xs.length e = G at hge hcm ⊢
  have hlen : (olds ++ news).length = (xs.length + ys.length) * sz := by rw [List.length_append, hl, hl2, Nat.add_mul]
  have hown : (w.drew.alloc (.cells (olds.toArray ++ news.toArray ++ Builtin.zeroCells z.cells (G - (xs.length + ys.length))) e)).ownsRow w0.heap.size e sz (.slice (some ⟨w.heap.size, 0, none⟩) (xs.length + ys.length) G) (xs.length + ys.length) (olds ++ news) := by
    refine ⟨hlen, .inr ⟨w.heap.size, G, _, rfl, hb.below.size, Go.heap_alloc_new w.drew _, hge, hcm, ?_, ?_⟩⟩
    · simp only [Array.size_append, List.size_toArray, size_zeroCells, hzs, hl, hl2]
      rw [← Nat.add_mul, ← Nat.add_mul]
      congr 1; omega
    · simp only [Array.toList_append, List.append_assoc]
      rw [← List.append_assoc, ← hlen]
      exact List.take_left
  have hg : w.grownBy (w.drew.alloc (.cells (olds.toArray ++ news.toArray ++ Builtin.zeroCells z.cells (G - (xs.length + ys.length))) e)) none :=
    ⟨rfl, rfl, rfl, by simp, fun k hk _ => Below.heap_alloc w.drew _ k hk⟩
  have hf := hb.push hg (.slice (some ⟨w.heap.size, 0, none⟩) (xs.length + ys.length) G) (.row 0 e sz (xs ++ ys)) (fun b hb' => by simp [blkOf] at hb'; subst hb'; exact ⟨Nat.le_refl _, by simp⟩)
    ⟨olds ++ news, by rw [List.length_append]; exact hown, (hrows.append hl hrows2).1, (hrows.append hl hrows2).2, fun b hb' => by simp [blkOf] at hb'; subst hb'; exact hb.sl.fresh (Nat.le_refl _), fun v hv => by
      rcases List.mem_append.1 hv with h | h
      · exact hone v h
      · exact hone2 v h⟩
  refine ⟨σ, _, hf, _, _, by rw [← hb.len]; simp; rfl, by simp; rfl, fun k' e' sz' xs' heq => ?_⟩
  cases heq
  exact ⟨Nat.le_refl _, fun _ => ⟨by simp, .inl ⟨rfl, by simp, rfl⟩⟩⟩
def ptrT (P : Program) (t : TypeId) : Bool :=
  match P.underlying t with
  | some (.pointer e) => (P.info? e).isSome
  | _ => false
theorem ptrT_spec {t : TypeId} (h : ptrT P t = true) : ∃ e j, P.underlying t = some (.pointer e) ∧ P.info? e = some j := by
  unfold ptrT at h
  split at h
  · rename_i e he
    obtain ⟨j, hj⟩ := Option.isSome_iff_exists.1 h
    exact ⟨e, j, he, hj⟩
  · cases h
theorem eqGuard_ptr (op : BinOp) (t : TypeId) (x y : Operand) (a b : Option Addr) : eqGuard op t x y (.pointer a) (.pointer b) = pure () := by
  cases op <;> rfl
theorem op_peql_nil (t ty : TypeId) (x y : Operand) (s off : Nat) (ht : ptrT P t = true) (hx : E x = .ptr s off) (hy : E y = .sc (.pointer none)) : OpS P (.binOp .eql t x y ty) E st (.bool false) st :=
  op_pure fun o ho w0 σ0 σ gh ρ w hb hρ => by
    have h1 := hρ x (by simp [Op.operands])
    have h2 := hρ y (by simp [Op.operands])
    rw [hx] at h1
    rw [hy] at h2
    obtain ⟨b, _, h3⟩ := h1
    obtain ⟨e, j, h4, h5⟩ := ptrT_spec ht
    have hpt : P.pointee t = e := by simp [Program.pointee, h4]
    have := run_eql_pointer_nil (P := P) w t (some ⟨b, off, none⟩) (by rw [hpt]; exact h4)
    exact ⟨.bool false, by simp [execOp, ho, h3, RepA_sc h2, eqGuard_ptr, this], RepA_of_sc rfl⟩
theorem op_peql_nils (t ty : TypeId) (x y : Operand) (ht : ptrT P t = true) (hx : E x = .sc (.pointer none)) (hy : E y = .sc (.pointer none)) : OpS P (.binOp .eql t x y ty) E st (.bool true) st :=
  op_pure fun o ho w0 σ0 σ gh ρ w hb hρ => by
    have h1 := hρ x (by simp [Op.operands])
    have h2 := hρ y (by simp [Op.operands])
    rw [hx] at h1
    rw [hy] at h2
    obtain ⟨e, j, h4, h5⟩ := ptrT_spec ht
    have hpt : P.pointee t = e := by simp [Program.pointee, h4]
    have := run_eql_pointer_nil (P := P) w t none (by rw [hpt]; exact h4)
    exact ⟨.bool true, by simp [execOp, ho, RepA_sc h1, RepA_sc h2, eqGuard_ptr, this], RepA_of_sc rfl⟩
theorem op_pneq_same (t ty : TypeId) (x y : Operand) (s off : Nat) (ht : ptrT P t = true) (hx : E x = .ptr s off) (hy : E y = .ptr s off) : OpS P (.binOp .neq t x y ty) E st (.bool false) st :=
  op_pure fun o ho w0 σ0 σ gh ρ w hb hρ => by
    have h1 := hρ x (by simp [Op.operands])
    have h2 := hρ y (by simp [Op.operands])
    rw [hx] at h1
    rw [hy] at h2
    obtain ⟨b, h3, h4⟩ := h1
    obtain ⟨b', h3', h4'⟩ := h2
    rw [h3] at h3'
    cases h3'
    obtain ⟨e, j, h5, h6⟩ := ptrT_spec ht
    have := Lib.run_neq_ptr_same (P := P) w ⟨b, off, none⟩ h5 h6
    exact ⟨.bool false, by simp [execOp, ho, h4, h4', eqGuard_ptr, this], RepA_of_sc rfl⟩
def CvOk (P : Program) (s d bT n : Nat) : Prop := ∀ (w : World) b, w.shape? b = some (bT, n) → (convert s d (.pointer (some ⟨b, 0, none⟩))).run P w = .ok (.pointer (some ⟨b, 0, none⟩)) w
theorem op_convert_ptr (s d : TypeId) (x : Operand) (i bT : Nat) (cells : List AV) (hx : E x = .ptr i 0) (hst : st[i]? = some (.box bT cells)) (hc : CvOk P s d bT cells.length) : OpS P (.convert s d x) E st (.ptr i 0) st :=
  op_pure fun o ho w0 σ0 σ gh ρ w hb hρ => by
    have h1 := hρ x (by simp [Op.operands])
    rw [hx] at h1
    obtain ⟨b, vals, h2, h3, h4, h5, h6, _⟩ := ptr_cells hb h1 hst
    have := hc w b (by simp [World.shape?, h5, h6])
    exact ⟨.pointer (some ⟨b, 0, none⟩), by simp [execOp, ho, h3, this], b, h2, rfl⟩
def IdFn (P : Program) (f : FuncId) : Prop := ∀ (v : Value) (w : World), (callFunc f #[v]).run P w = .ok (.value v) w
theorem op_call_id (x y : Operand) (f : FuncId) (ts : Array TypeId) (hx : E x = .sc (.func (.func f) #[] #[])) (hi : IdFn P f) :
    OpS P (.call { callee := .value x, args := #[y], argTypes := ts }) E st (E y) st :=
  op_pure fun o ho w0 σ0 σ gh ρ w hb hρ => by
    have hf := hρ x (by simp [Op.operands, Call.operands])
    rw [hx] at hf
    have hf := RepA_sc hf
    have := hi (ρ y) w
    refine ⟨ρ y, ?_, hρ y (by simp [Op.operands, Call.operands])⟩
    simp only [execOp, ho, resolve, hf, Deferred.ofValue, Sem.run_bind, Sem.run_pure, Result.andThen_ok, invoke]
    simpa using this
theorem op_buildSlice0 (t e : TypeId) (sz : Nat) (ht : elT P t = some (e, sz)) : OpS P (.buildSlice t 0 #[]) E st (.h st.length 0 0 0) (st ++ [.row 0 e sz []]) := by
  intro o ho w0 σ0 σ gh ρ w hb hρ
  obtain ⟨hu, i, hi, hsz⟩ := elT_spec ht
  have hrun : (execOp ρ o).run P w = .ok (.value (.slice (some ⟨w.heap.size, 0, none⟩) 0 0)) (w.alloc (.cells #[] e)) := by
    simp [execOp, ho, Instr.buildSlice, run_underlying hu, sizeOf, typeInfo, hi, newRow, Instr.fill]
    congr 2
    exact Array.eq_empty_of_size_eq_zero (by simp)
  rw [hrun]
  have hf := hb.push (World.grownBy_alloc w _ none) (.slice (some ⟨w.heap.size, 0, none⟩) 0 0) (.row 0 e sz []) (fun b hb' => by simp [blkOf] at hb'; subst hb'; exact ⟨Nat.le_refl _, by simp⟩)
    ⟨[], World.ownsRow_made w #[] 0 hb.below.size (Nat.zero_le _) (by simp), fun i x h => by simp at h, fun i j x d h => by simp at h, fun b hb' => by simp [blkOf] at hb'; subst hb'; exact hb.sl.fresh (Nat.le_refl _), by simp⟩
  refine ⟨σ, _, hf, _, _, by rw [← hb.len]; simp; rfl, by simp; rfl, fun k' e' sz' xs' heq => ?_⟩
  cases heq
  exact ⟨Nat.le_refl _, fun _ => ⟨by simp, .inl ⟨rfl, rfl, rfl⟩⟩⟩
end
end Go.Proofs.Nw.K
end
section
/- K23: a map of one's own, keyed by strings. -/
open Go Go.RowKit Go.MapKept
namespace Go.Proofs.Nw.K
def strE (p : ByteArray × D) : Value × AV := (.string p.1, .d p.2)
def lookD (z : D) (k : ByteArray) : List (ByteArray × D) → D
  | [] => z
  | (a, d) :: r => if k = a then d else lookD z k r
def fndD (k : ByteArray) : List (ByteArray × D) → Option Nat
  | [] => none
  | (a, _) :: r => if k = a then some 0 else (fndD k r).map (· + 1)
def updD (k : ByteArray) (d : D) : List (ByteArray × D) → List (ByteArray × D)
  | [] => [(k, d)]
  | (a, x) :: r => if k = a then (a, d) :: r else (a, x) :: updD k d r
theorem fndD_none {k : ByteArray} {z d : D} : ∀ {l : List (ByteArray × D)}, fndD k l = none → lookD z k l = z ∧ updD k d l = l ++ [(k, d)]
  | [], _ => ⟨rfl, rfl⟩
  | (a, x) :: r, h => by
    unfold fndD at h
    split at h
    · cases h
    · rename_i hne
      have := fndD_none (z := z) (d := d) (l := r) (by simpa using h)
      exact ⟨by simp only [lookD, if_neg hne]; exact this.1, by simp only [updD, if_neg hne, this.2]; rfl⟩
theorem fndD_some {k : ByteArray} {z d : D} : ∀ {l : List (ByteArray × D)} {i : Nat}, fndD k l = some i → ∃ x, l[i]? = some (k, x) ∧ lookD z k l = x ∧ updD k d l = l.set i (k, d)
  | [], i, h => by cases h
  | (a, x) :: r, i, h => by
    unfold fndD at h
    split at h
    · rename_i he
      cases h
      subst he
      exact ⟨x, rfl, by simp [lookD], by simp [updD]⟩
    · rename_i hne
      obtain ⟨j, hj, rfl⟩ := Option.map_eq_some_iff.1 h
      obtain ⟨y, h1, h2, h3⟩ := fndD_some (z := z) (d := d) hj
      exact ⟨y, by simpa using h1, by simp only [lookD, if_neg hne]; exact h2, by simp only [updD, if_neg hne, h3]; rfl⟩
theorem findNow_str (k : ByteArray) : ∀ (l : List (ByteArray × D)) (es : List MapEntry) (n : Nat), es.length = l.length → (∀ (i : Nat) (me : MapEntry) p, es[i]? = some me → l[i]? = some p → me.key = .string p.1) →
    (fndD k l = none ∧ Instr.findNow .string (.string k) es n = some none) ∨ ∃ i me, fndD k l = some i ∧ es[i]? = some me ∧ Instr.findNow .string (.string k) es n = some (some (n + i, me.val))
  | [], [], n, _, _ => .inl ⟨rfl, rfl⟩
  | (a, d) :: r, e :: es, n, hl, hk => by
    have h0 : e.key = .string a := hk 0 e (a, d) rfl rfl
    by_cases he : k = a
    · refine .inr ⟨0, e, by simp [fndD, he], rfl, ?_⟩
      have : (k == a) = true := (bytes_beq k a).2 he
      simp [Instr.findNow, Instr.sameNow, h0, this]
    · have : (k == a) = false := by
        cases hc : (k == a) with
        | false => rfl
        | true => exact absurd ((bytes_beq k a).1 hc) he
      rcases findNow_str k r es (n + 1) (by simpa using hl) (fun i me p h1 h2 => hk (i + 1) me p (by simpa using h1) (by simpa using h2)) with ⟨h1, h2⟩ | ⟨i, me, h1, h2, h3⟩
      · exact .inl ⟨by simp [fndD, he, h1], by simp [Instr.findNow, Instr.sameNow, h0, this, h2]⟩
      · exact .inr ⟨i + 1, me, by simp [fndD, he, h1], by simpa using h2, by simp [Instr.findNow, Instr.sameNow, h0, this, h3]; omega⟩
  | [], _ :: _, _, hl, _ => by simp at hl
  | _ :: _, [], _, hl, _ => by simp at hl
def mapT (P : Program) (t : TypeId) : Option D :=
  match P.underlying t with
  | some (.map k e) => match P.underlying k, P.info? e with
    | some .string, some i => match i.zero with
      | some (.bool b) => some (.sc (.bool b))
      | some (.string s) => some (.sc (.string s))
      | some (.int k n) => some (.sc (.int k n))
      | _ => none
    | _, _ => none
  | _ => none
theorem mapT_spec {P : Program} {t : TypeId} {zd : D} (h : mapT P t = some zd) : ∃ k e i z, P.underlying t = some (.map k e) ∧ P.underlying k = some .string ∧ P.info? e = some i ∧ i.zero = some z ∧ ∀ σ, Rep σ z zd := by
  unfold mapT at h
  split at h <;> try cases h
  rename_i k e ht
  split at h <;> try cases h
  rename_i i hk hi
  split at h <;> try cases h
  all_goals (rename_i hz; exact ⟨k, e, i, _, ht, hk, hi, hz, fun σ => Rep.sc rfl⟩)
section
variable {P : Program} {E : Operand → AV} {st : List AO}
theorem op_makeMap (t : TypeId) : OpS P (.makeMap t none) E st (.omap st.length) (st ++ [.mp []]) := by
  intro o ho w0 σ0 σ gh ρ w hb hρ
  have : (execOp ρ o).run P w = .ok (.value (.map (some w.heap.size))) (w.alloc (.map #[] 0)) := by
    simp [execOp, ho, run_makeMap, Result.andThen]
  rw [this]
  have hf := hb.push (w' := w.alloc (.map #[] 0)) (World.grownBy_alloc w _ none) (.map (some w.heap.size)) (.mp []) (fun b h => by
      simp only [blkOf, Option.some.injEq] at h; subst h; simp)
    ⟨w.heap.size, #[], 0, rfl, hb.below.size, (MapKept.heap_alloc w _).1, rfl, fun i k d h => by simp at h, hb.sl.fresh (Nat.le_refl _), rfl, fun i me h => by simp at h⟩
  exact ⟨σ, _, hf, by rw [← hb.len]; simp, _, rfl⟩
theorem op_lookup (t : TypeId) (x i : Operand) (s : Nat) (zd : D) (l : List (ByteArray × D)) (k : ByteArray) (ht : mapT P t = some zd) (hx : E x = .omap s) (hst : st[s]? = some (.mp (l.map strE))) (hi : E i = .str k) :
    OpS P (.lookup t x i false) E st (.d (lookD zd k l)) st := by
  obtain ⟨kt, e, inf, z, h1, h2, h3, h4, h5⟩ := mapT_spec ht
  refine op_pure fun o ho w0 σ0 σ gh ρ w hb hρ => ?_
  have hx' := hρ x (by simp [Op.operands])
  have hi' := hρ i (by simp [Op.operands])
  rw [hx] at hx'
  rw [hi] at hi'
  have hi' := RepA_sc hi'
  obtain ⟨hg, r, hr⟩ := hx'
  obtain ⟨r', entries, clock, e1, e2, e3, e4, e5, e6⟩ := hb.obj s _ _ hst hg
  have hrr : r' = r := by rw [hr] at e1; simpa using e1.symm
  subst hrr
  have hl : entries.toList.length = l.length := by simpa using e4
  have hkeys : ∀ (i : Nat) (me : MapEntry) p, entries.toList[i]? = some me → l[i]? = some p → me.key = .string p.1 := fun i me p hm hp => by
    obtain ⟨me', h6, h7, _⟩ := e5 i (.string p.1) (.d p.2) (by simp [hp, strE])
    rw [show entries.toList[i]? = entries[i]? by simp] at hm
    rw [hm] at h6
    cases h6
    exact h7
  have hzero : (zeroValue e).run P w = .ok z w := by simp [zeroValue, typeInfo, h3, h4]
  rcases findNow_str k l entries.toList 0 hl hkeys with ⟨f1, f2⟩ | ⟨j, me, f1, f2, f3⟩
  · refine ⟨z, ?_, ?_⟩
    · simp [execOp, ho, hr, hi', Instr.lookup, run_underlying h1, Go.MapKept.run_getObj_map e3, Go.MapKept.run_checkKey (d := .string) (k := .string k) h2 trivial, Go.MapKept.run_findKey h2 f2, Result.andThen, hzero]
    · rw [(fndD_none (z := zd) (d := zd) f1).1]; exact h5 σ
  · obtain ⟨y, g1, g2, _⟩ := fndD_some (z := zd) (d := zd) f1
    obtain ⟨me', g3, _, g4⟩ := e5 j (.string k) (.d y) (by simp [g1, strE])
    have : me' = me := by
      rw [show entries.toList[j]? = entries[j]? by simp] at f2
      rw [f2] at g3; cases g3; rfl
    subst this
    refine ⟨me'.val, ?_, ?_⟩
    · simp [execOp, ho, hr, hi', Instr.lookup, run_underlying h1, Go.MapKept.run_getObj_map e3, Go.MapKept.run_checkKey (d := .string) (k := .string k) h2 trivial, Go.MapKept.run_findKey h2 f3, Result.andThen]
    · rw [g2]; exact g4
theorem op_mapUpdate (t : TypeId) (x i y : Operand) (s : Nat) (zd d : D) (l : List (ByteArray × D)) (k : ByteArray) (ht : mapT P t = some zd) (hx : E x = .omap s) (hst : st[s]? = some (.mp (l.map strE))) (hi : E i = .str k) (hy : E y = .d d) :
    OpS P (.mapUpdate t x i y) E st .junk (st.set s (.mp ((updD k d l).map strE))) := by
  obtain ⟨kt, e, inf, z, h1, h2, h3, h4, h5⟩ := mapT_spec ht
  intro o ho w0 σ0 σ gh ρ w hb hρ
  have hx' := hρ x (by simp [Op.operands])
  have hi' := hρ i (by simp [Op.operands])
  have hy' := hρ y (by simp [Op.operands])
  rw [hx] at hx'
  rw [hi] at hi'
  rw [hy] at hy'
  have hi' := RepA_sc hi'
  have hy' : Rep σ (ρ y) d := hy'
  obtain ⟨hg, r, hr⟩ := hx'
  obtain ⟨r', entries, clock, e1, e2, e3, e4, e5, e6⟩ := hb.obj s _ _ hst hg
  have hrr : r' = r := by rw [hr] at e1; simpa using e1.symm
  subst hrr
  have hl : entries.toList.length = l.length := by simpa using e4
  have hkeys : ∀ (i : Nat) (me : MapEntry) p, entries.toList[i]? = some me → l[i]? = some p → me.key = .string p.1 := fun i me p hm hp => by
    obtain ⟨me', h6, h7, _⟩ := e5 i (.string p.1) (.d p.2) (by simp [hp, strE])
    rw [show entries.toList[i]? = entries[i]? by simp] at hm
    rw [hm] at h6
    cases h6
    exact h7
  have hrlt : r' < w.heap.size := (Array.getElem?_eq_some_iff.1 e3).1
  have keep : ∀ (o' : AO), (∀ k' e' sz' xs', o' ≠ .row k' e' sz' xs') → ∀ v a, RepA σ gh st v a → RepA σ gh (st.set s o') v a := fun o' hne v a h' => h'.set hst o' (fun k' e' sz' xs' heq => absurd heq (hne _ _ _ _))
  have fin : ∀ (entries' : Array MapEntry) (clock' : Nat) (l' : List (ByteArray × D)), entries'.size = l'.length → (clock' = entries'.size ∧ ∀ (i : Nat) (me : MapEntry), entries'[i]? = some me → me.born = i ∧ me.val.oneCell' = true) →
      (∀ (i : Nat) p, l'[i]? = some p → ∃ me : MapEntry, entries'[i]? = some me ∧ me.key = .string p.1 ∧ Rep σ me.val p.2) →
      Fut w0 σ0 σ gh st σ gh (st.set s (.mp (l'.map strE))) { w with heap := w.heap.setIfInBounds r' (.map entries' clock') } := fun entries' clock' l' hs hbo he => by
    have := hb.turn (w' := { w with heap := w.heap.setIfInBounds r' (.map entries' clock') }) hst hg (by simp) ⟨rfl, rfl, rfl, by simp, fun j _ hj => by
        have hne : r' ≠ j := fun hh => hj (by rw [hr]; simp [blkOf, hh])
        simp [hne]⟩ (ρ x) (.mp (l'.map strE)) (fun b hb' => .inl hb')
      ⟨r', entries', clock', hr, e2, by simp [hrlt], by simpa using hs, fun i k d hk => by
        simp only [List.getElem?_map, Option.map_eq_some_iff] at hk
        obtain ⟨p, hp, hpe⟩ := hk
        obtain ⟨me, m1, m2, m3⟩ := he i p hp
        simp only [strE, Prod.mk.injEq] at hpe
        obtain ⟨rfl, rfl⟩ := hpe
        exact ⟨me, m1, m2, m3⟩, e6.1, hbo⟩ (by rw [set_self hg]; exact keep _ (by simp))
    rwa [set_self hg] at this
  have old : ∀ (i : Nat) p, l[i]? = some p → ∃ me : MapEntry, entries[i]? = some me ∧ me.key = .string p.1 ∧ Rep σ me.val p.2 := fun i p hp => e5 i (.string p.1) (.d p.2) (by simp [hp, strE])
  rcases findNow_str k l entries.toList 0 hl hkeys with ⟨f1, f2⟩ | ⟨j, me, f1, f2, f3⟩
  · have hrun : (execOp ρ o).run P w = .ok .skip { w with heap := w.heap.setIfInBounds r' (.map (entries.push { key := .string k, val := ρ y, born := clock }) (clock + 1)) } := by
      simp [execOp, ho, hr, hi', Instr.mapUpdate, run_underlying h1, Go.MapKept.run_getObj_map e3, Go.MapKept.run_checkKey (d := .string) (k := .string k) h2 trivial, Go.MapKept.run_findKey h2 f2, Go.MapKept.run_setObj_map _ e3, Result.andThen]
    rw [hrun]
    refine ⟨rfl, σ, gh, ?_⟩
    rw [(fndD_none (z := zd) (d := d) f1).2]
    refine fin _ _ _ (by simp; simpa using hl) ⟨by simp [e6.2.1], fun i me hm => by
      rw [Array.getElem?_push] at hm
      split at hm
      · rename_i hi; cases hm; exact ⟨e6.2.1.trans hi.symm, hy'.one⟩
      · exact e6.2.2 i me hm⟩ fun i p hp => ?_
    by_cases hlt : i < l.length
    · rw [List.getElem?_append_left hlt] at hp
      obtain ⟨me, m1, m2, m3⟩ := old i p hp
      have : i < entries.size := (Array.getElem?_eq_some_iff.1 m1).1
      exact ⟨me, by rw [Array.getElem?_push, if_neg (by omega)]; exact m1, m2, m3⟩
    · have hi0 : i = l.length := by
        have := (List.getElem?_eq_some_iff.1 hp).1
        simp at this; omega
      subst hi0
      simp at hp
      subst hp
      exact ⟨_, by rw [Array.getElem?_push, if_pos (by simpa using hl.symm)], rfl, hy'⟩
  · obtain ⟨y0, g1, _, g2⟩ := fndD_some (z := zd) (d := d) f1
    have f2' : entries[j]? = some me := by simpa using f2
    have hkey : me.key = .string k := hkeys j me _ f2 g1
    have hsame : Instr.sameBits 10000 (Value.string k) (Value.string k) = true := by
      show (k == k) = true
      exact (bytes_beq k k).2 rfl
    have hrun : (execOp ρ o).run P w = .ok .skip { w with heap := w.heap.setIfInBounds r' (.map (entries.modify j fun e => { e with key := .string k, val := ρ y }) clock) } := by
      simp [execOp, ho, hr, hi', Instr.mapUpdate, run_underlying h1, Go.MapKept.run_getObj_map e3, Go.MapKept.run_checkKey (d := .string) (k := .string k) h2 trivial, Go.MapKept.run_findKey h2 f3, f2', hkey, Instr.keyThatStays, hsame, Go.MapKept.run_setObj_map _ e3, Result.andThen]
    rw [hrun]
    refine ⟨rfl, σ, gh, ?_⟩
    rw [g2]
    refine fin _ _ _ (by simp; simpa using hl) ⟨by simp [e6.2.1], fun i me hm => by
      rw [Array.getElem?_modify] at hm
      split at hm
      · rename_i hi
        obtain ⟨me0, h0, rfl⟩ := Option.map_eq_some_iff.1 hm
        exact ⟨(e6.2.2 i me0 h0).1, hy'.one⟩
      · exact e6.2.2 i me hm⟩ fun i p hp => ?_
    by_cases hij : j = i
    · subst hij
      have hjl : j < l.length := (List.getElem?_eq_some_iff.1 g1).1
      have : p = (k, d) := by simpa [hjl] using hp.symm
      subst this
      exact ⟨_, by rw [Array.getElem?_modify, if_pos rfl, f2']; rfl, rfl, hy'⟩
    · rw [List.getElem?_set, if_neg hij] at hp
      obtain ⟨me', m1, m2, m3⟩ := old i p hp
      exact ⟨me', by rw [Array.getElem?_modify, if_neg hij]; exact m1, m2, m3⟩
end
end Go.Proofs.Nw.K
end
