/- Bundle 2: NwK8, NwK9, NwK10, NwK11, NwK12, NwK13. -/
import Derived.Test.YtblenipidihemaaGreatDoorNwA1
import Derived.ScopeJumps
import Derived.Still
section
/- K8: sealing; structs and slices built from parts. -/
open Go Go.RowKit
set_option linter.unusedVariables false
set_option linter.unusedSimpArgs false
namespace Go.Proofs.Nw.K

/-- a block of cells is sealed, from its begin on -/
def Sig.shut (σ : Sig) (b : Nat) (vals : List Value) : Sig := { cell := fun b' o => if b' = b then vals[o]? else σ.cell b' o, obj := σ.obj }

theorem Sig.le_seal {σ : Sig} {b : Nat} (h : Uns σ b) (vals : List Value) : σ.le (σ.shut b vals) :=
  ⟨fun b' o v hv => by
    simp only [Sig.shut]
    split
    · rename_i e; subst e; rw [h.1] at hv; cases hv
    · exact hv, fun _ _ h => h⟩

theorem Uns.shut {σ : Sig} {b b' : Nat} (h : Uns σ b') (hne : b' ≠ b) (vals : List Value) : Uns (σ.shut b vals) b' :=
  ⟨fun o => by simp only [Sig.shut, if_neg hne]; exact h.1 o, h.2⟩

theorem ObjOk.sig {σ σ' : Sig} {gh st gh' st'} {B : Nat} {w : World} {g : Value} {o : AO} (h : ObjOk σ gh st B w g o) (hl : σ.le σ') (hu : ∀ b, blkOf g = some b → Uns σ b → Uns σ' b)
    (keep : ∀ v a, RepA σ gh st v a → RepA σ' gh' st' v a) : ObjOk σ' gh' st' B w g o := by
  cases o with
  | box bT cells =>
    obtain ⟨b, vals, h1, h2, h3, h4, h5, h6, h7⟩ := h
    exact ⟨b, vals, h1, h2, h3, h4, fun i v c a b => keep _ _ (h5 i v c a b), hu b (by simp [h1, blkOf]) h6, h7⟩
  | row k e sz xs =>
    obtain ⟨vals, h1, h2, h3, h4, h5⟩ := h
    exact ⟨vals, h1, h2, fun i j x d a b => let ⟨v, c1, c2⟩ := h3 i j x d a b; ⟨v, c1, c2.mono hl⟩, fun b hb => hu b hb (h4 b hb), h5⟩
  | mp es =>
    obtain ⟨r, entries, clock, h1, h2, h3, h4, h5, h6⟩ := h
    exact ⟨r, entries, clock, h1, h2, h3, h4, fun i k d a => let ⟨me, c1, c2, c3⟩ := h5 i k d a; ⟨me, c1, c2, keep _ _ c3⟩, hu r (by simp [h1, blkOf]) h6.1, h6.2⟩
  | brow e ns =>
    obtain ⟨b, vals, fz, h1, h2, h3, h4, h5, h6, h7⟩ := h
    exact ⟨b, vals, fz, h1, h2, h3, h4, h5, h6, hu b (by simp [h1, blkOf]) h7⟩
  | gone => trivial

/-- a new block, sealed at once -/
theorem new_sealed {w0 : World} {σ0 σ gh st w} (hb : Base w0 σ0 σ gh st w) (vals : Array Value) (T : TypeId) (h1 : ∀ v ∈ vals, v.oneCell' = true) :
    Fut w0 σ0 σ gh st (σ.shut w.heap.size vals.toList) gh st (w.alloc (.cells vals T)) := by
  have hfr := hb.sl.fresh (Nat.le_refl _)
  have hle := Sig.le_seal hfr vals.toList
  have hg := World.grownBy_alloc w (.cells vals T) none
  have b' := hb.grown hg
  have keep : ∀ v a, RepA σ gh st v a → RepA (σ.shut w.heap.size vals.toList) gh st v a := fun v a h => h.sig hle
  refine ⟨⟨b'.below, fun b h => ?_, ⟨fun b o v hv => ?_, fun r o ho => ?_⟩, b'.len, b'.sep, b'.lt, fun s o g h1 h2 => ?_⟩, keep⟩
  · have : b ≠ w.heap.size := by have := hb.below.size; omega
    have := hb.ext b h
    exact ⟨by funext o; simp only [Sig.shut]; rw [if_neg ‹_›]; exact congrFun this.1 o, this.2⟩
  · simp only [Sig.shut] at hv
    split at hv
    · rename_i e; subst e
      refine ⟨?_, h1 v (by rw [← Array.mem_toList_iff]; exact List.mem_of_getElem? hv)⟩
      rw [World.cell?_alloc_new]; simpa using hv
    · exact b'.sl.cell b o v hv
  · exact b'.sl.obj r o ho
  · refine (b'.obj s o g h1 h2).sig hle (fun b hbk hu => hu.shut ?_ _) keep
    have := hb.lt s g b h2 hbk; omega

/-- a row of one's own is given out as data, and not written again -/
theorem seal_row {w0 : World} {σ0 σ gh st w} (hb : Base w0 σ0 σ gh st w) {s k e sz : Nat} {xs} (hst : st[s]? = some (.row k e sz xs)) {g : Value} (hg : gh[s]? = some g) :
    ∃ σ', Fut w0 σ0 σ gh st σ' gh (st.set s .gone) w ∧ Rep σ' g (.list sz xs) := by
  obtain ⟨vals, hown, hsz, hval, huns, hone⟩ := hb.obj s _ _ hst hg
  have keep0 : ∀ v a, RepA σ gh st v a → RepA σ gh (st.set s .gone) v a := fun v a h => h.set hst _ (fun _ _ _ _ h => by cases h)
  have hslt : s < st.length := (List.getElem?_eq_some_iff.1 hst).1
  rcases hown.2 with ⟨rfl, h0⟩ | ⟨b, cap, cur, rfl, hbb, hheap, hnc, hcm, hcs, htake⟩
  · refine ⟨σ, ⟨⟨hb.below, hb.ext, hb.sl, by simp [hb.len], hb.sep, hb.lt, fun t o1 g1 h1 h2 => ?_⟩, keep0⟩, ?_⟩
    · rw [List.getElem?_set] at h1
      split at h1
      · simp [hslt] at h1; subst h1; trivial
      · exact (hb.obj t o1 g1 h1 h2).sig (.refl σ) (fun _ _ h => h) keep0
    · have : xs = [] := List.eq_nil_of_length_eq_zero h0
      subst this
      exact .nil (by simp [maxLen])
  · have hu := huns b (by simp [blkOf])
    have hle := Sig.le_seal hu vals
    have keep : ∀ v a, RepA σ gh st v a → RepA (σ.shut b vals) gh (st.set s .gone) v a := fun v a h => (keep0 v a h).sig hle
    refine ⟨σ.shut b vals, ⟨⟨hb.below, fun b' h => ?_, ⟨fun b' o v hv => ?_, hb.sl.obj⟩, by simp [hb.len], hb.sep, hb.lt, fun t o1 g1 h1 h2 => ?_⟩, keep⟩, ?_⟩
    · have : b' ≠ b := by omega
      have := hb.ext b' h
      exact ⟨by funext o; simp only [Sig.shut]; rw [if_neg ‹_›]; exact congrFun this.1 o, this.2⟩
    · simp only [Sig.shut] at hv
      split at hv
      · rename_i e'; subst e'
        refine ⟨?_, hone v (List.mem_of_getElem? hv)⟩
        have := hown.cells (g := b') (by simp [Value.ownBlock]) o v hv
        rwa [add_lit, Nat.zero_add] at this
      · exact hb.sl.cell b' o v hv
    · rw [List.getElem?_set] at h1
      split at h1
      · simp [hslt] at h1; subst h1; trivial
      · rename_i hne
        refine (hb.obj t o1 g1 h1 h2).sig hle (fun b' hbk hu' => hu'.shut ?_ _) keep
        intro e'; subst e'
        exact hb.sep s t b' hne (by rw [hg]; simp [blkOf]) (by rw [h2]; exact hbk)
    · by_cases h0 : xs.length = 0
      · have : xs = [] := List.eq_nil_of_length_eq_zero h0
        subst this
        exact .nil (by omega)
      · refine .list (fun i j => vals.getD (i * sz + j) undef) rfl (by omega) hnc hcm hsz (fun i j hi hj => ?_) (fun i j x d hx hd => ?_)
        · have hlt : i * sz + j < vals.length := by
            rw [hown.1]
            calc i * sz + j < i * sz + sz := by omega
              _ = (i + 1) * sz := by rw [Nat.add_mul]; omega
              _ ≤ xs.length * sz := Nat.mul_le_mul_right _ (by omega)
          simp [Sig.shut, hlt, List.getD]
        · obtain ⟨v, h1, h2⟩ := hval i j x d hx hd
          simp only [List.getD, h1, Option.getD_some]
          exact h2.mono hle

/-! ### parts -/
def dsOf : AV → Option (List D)
  | .v (.one d) => some [d]
  | .v (.agg cs) => some cs
  | _ => none

def fillD (place : Nat → Option (Nat × Nat)) (cells : List D) : List (Nat × AV) → Option (List D)
  | [] => some cells
  | (i, a) :: rest =>
    match place i, dsOf a with
    | some (off, size), some ds => if ds.length ≠ size || cells.length < off + size then none else fillD place (cells.take off ++ ds ++ cells.drop (off + size)) rest
    | _, _ => none

theorem foldl_set (off : Nat) : ∀ (l : List Value) (j : Nat) (cs : Array Value), (l.zipIdx j).foldl (fun cs (x : Value × Nat) => cs.setIfInBounds (off + x.2) x.1) cs =
    (cs.toList.zipIdx.map fun (x : Value × Nat) => if off + j ≤ x.2 ∧ x.2 < off + j + l.length then (l[x.2 - (off + j)]?).getD x.1 else x.1).toArray
  | [], j, cs => by
    apply Array.ext_getElem?
    intro i
    simp only [List.zipIdx_nil, List.foldl_nil, List.getElem?_toArray, List.getElem?_map, List.getElem?_zipIdx, List.length_nil, Nat.add_zero, Array.getElem?_toList]
    cases cs[i]? <;> simp <;> omega
  | v :: l, j, cs => by
    rw [List.zipIdx_cons, List.foldl_cons, foldl_set off l (j + 1)]
    apply Array.ext_getElem?
    intro i
    simp only [List.getElem?_toArray, List.getElem?_map, List.getElem?_zipIdx, Array.getElem?_toList, Array.getElem?_setIfInBounds, Nat.zero_add, List.length_cons]
    by_cases hi : i < cs.size
    · by_cases e : off + j = i
      · subst e
        have c1 : ¬ (off + (j + 1) ≤ off + j) := by omega
        have c2 : off + j < off + j + (l.length + 1) := by omega
        simp [hi, c1, c2]
      · simp only [e, if_false, hi, Array.getElem?_eq_getElem, Option.map_some]
        congr 1
        by_cases h1 : off + (j + 1) ≤ i ∧ i < off + (j + 1) + l.length
        · rw [if_pos h1, if_pos (by omega)]
          have : i - (off + j) = (i - (off + (j + 1))) + 1 := by omega
          rw [this, List.getElem?_cons_succ]
        · rw [if_neg h1, if_neg (by omega)]
    · have e1 : cs[i]? = none := by simp; omega
      have c1 : ¬ (off + j = i ∧ i < cs.size) := by omega
      by_cases e : off + j = i
      · simp [e1, hi, e]
      · simp [e1, hi, e]

theorem fill_step (off : Nat) (vs : List Value) (cs : Array Value) (h : off + vs.length ≤ cs.size) :
    vs.toArray.zipIdx.foldl (fun cs (x : Value × Nat) => cs.setIfInBounds (off + x.2) x.1) cs = (cs.toList.take off ++ vs ++ cs.toList.drop (off + vs.length)).toArray := by
  rw [← Array.foldl_toList, Array.toList_zipIdx]
  simp only []
  rw [foldl_set off vs 0 cs]
  congr 1
  apply List.ext_getElem?
  intro i
  simp only [List.getElem?_map, List.getElem?_zipIdx, Nat.zero_add, Nat.add_zero]
  have l1 : (List.take off cs.toList).length = off := by simp; omega
  rw [List.append_assoc, List.getElem?_append, l1]
  by_cases h1 : i < off
  · rw [if_pos h1, List.getElem?_take_of_lt h1]
    cases hc : cs.toList[i]? <;> simp; omega
  · rw [if_neg h1, List.getElem?_append]
    by_cases h2 : i - off < vs.length
    · rw [if_pos h2]
      have : i < cs.toList.length := by simp; omega
      rw [List.getElem?_eq_getElem this]
      simp only [Option.map_some]
      rw [if_pos (by omega), List.getElem?_eq_getElem h2]; rfl
    · rw [if_neg h2, List.getElem?_drop]
      have : off + vs.length + (i - off - vs.length) = i := by omega
      rw [this]
      cases hc : cs.toList[i]? <;> simp; omega

theorem dsOf_vals {σ : Sig} {gh st} {v : Value} {a : AV} {ds : List D} (h : RepA σ gh st v a) (hd : dsOf a = some ds) : v.cells.size = ds.length ∧ RepL σ v.cells.toList ds := by
  cases a with
  | v x =>
    cases x with
    | one d =>
      cases hd
      have h : Rep σ v d := h
      rw [one_cells h.one]
      refine ⟨rfl, rfl, fun i u d' hu hd' => ?_⟩
      cases i with
      | zero => simp at hu hd'; subst hu hd'; exact h
      | succ i => simp at hu
    | agg cs =>
      cases hd
      obtain ⟨vs, rfl, hl, hr⟩ := h
      exact ⟨by simpa [Value.cells] using hl, by simpa [Value.cells] using hl, fun i u d hu hd => hr i u d (by simpa [Value.cells] using hu) hd⟩
  | _ => simp [dsOf] at hd

theorem RepL.splice {σ : Sig} {cs vs : List Value} {ds es : List D} (h : RepL σ cs ds) (k : RepL σ vs es) (off : Nat) (hle : off + vs.length ≤ cs.length) :
    RepL σ (cs.take off ++ vs ++ cs.drop (off + vs.length)) (ds.take off ++ es ++ ds.drop (off + es.length)) := by
  have e1 := h.1
  have e2 := k.1
  refine ⟨by simp; omega, fun i v d hv hd => ?_⟩
  rw [List.append_assoc, List.getElem?_append] at hv hd
  have l1 : (List.take off cs).length = off := by simp; omega
  have l2 : (List.take off ds).length = off := by simp; omega
  rw [l1] at hv
  rw [l2] at hd
  split at hv
  · rename_i hi
    rw [if_pos hi] at hd
    rw [List.getElem?_take_of_lt hi] at hv hd
    exact h.2 i v d hv hd
  · rename_i hi
    rw [if_neg hi] at hd
    rw [List.getElem?_append] at hv hd
    split at hv
    · rename_i hi2
      rw [if_pos (by omega)] at hd
      exact k.2 _ v d hv hd
    · rename_i hi2
      rw [if_neg (by omega)] at hd
      rw [List.getElem?_drop] at hv hd
      refine h.2 _ v d hv ?_
      rw [← hd]; congr 1; omega

theorem fill_rep {σ : Sig} {gh st} (place : Nat → Option (Nat × Nat)) : ∀ (vp : List (Nat × Value)) (ap : List (Nat × AV)) (cs : Array Value) (ds out : List D), vp.length = ap.length →
    (∀ (j : Nat) x y, vp[j]? = some x → ap[j]? = some y → x.1 = y.1 ∧ RepA σ gh st x.2 y.2) → RepL σ cs.toList ds → fillD place ds ap = some out →
    ∃ cs', Instr.fill place cs vp = some cs' ∧ RepL σ cs'.toList out
  | [], ap, cs, ds, out, hl, hp, hr, hf => by
    cases ap with
    | nil => simp only [fillD, Option.some.injEq] at hf; subst hf; exact ⟨cs, rfl, hr⟩
    | cons _ _ => simp at hl
  | (i, v) :: vp, ap, cs, ds, out, hl, hp, hr, hf => by
    cases ap with
    | nil => simp at hl
    | cons y ap =>
      obtain ⟨i', a⟩ := y
      obtain ⟨e1, hv⟩ := hp 0 (i, v) (i', a) rfl rfl
      simp only at e1
      subst e1
      unfold fillD at hf
      split at hf
      · rename_i off size es hpl hds
        split at hf
        · cases hf
        · rename_i hc
          simp at hc
          obtain ⟨h1, h2⟩ := dsOf_vals hv hds
          simp only at h1 h2
          have hcl : cs.size = ds.length := by simpa using hr.1
          have hstep := fill_step off v.cells.toList cs (by simp; omega)
          have hr' := hr.splice h2 off (by simp; omega)
          have hsz : v.cells.toList.length = size := by simp; omega
          have hs2 : es.length = size := hc.1
          rw [hs2, hsz] at hr'
          obtain ⟨cs', hf', hr2⟩ := fill_rep place vp ap (cs.toList.take off ++ v.cells.toList ++ cs.toList.drop (off + size)).toArray _ out (by simpa using hl) (fun j x y hx hy => hp (j + 1) x y (by simpa using hx) (by simpa using hy)) (by simpa using hr') hf
          refine ⟨cs', ?_, hr2⟩
          unfold Instr.fill
          rw [hpl]
          simp only []
          rw [if_neg (by simp; omega)]
          rw [hsz] at hstep
          simp only [Array.toArray_toList] at hstep
          rw [← hf']
          congr 1
      · cases hf

end Go.Proofs.Nw.K
end
section
/- K9: operations: build, buildSlice, extract, convert, elements of rows. -/
open Go Go.RowKit
set_option linter.unusedVariables false
set_option linter.unusedSimpArgs false
namespace Go.Proofs.Nw.K

/-- the zero of a type, cell by cell -/
def zeroD (P : Program) (t : TypeId) : Option (List D) :=
  match P.info? t with
  | some i => match i.zero with
    | some z => if z.cells.toList.all (fun c => match c with | .slice none 0 0 => true | v => scal v) then some (z.cells.toList.map cD) else none
    | none => none
  | none => none

theorem zeroD_spec {P : Program} {t : TypeId} {zs : List D} (h : zeroD P t = some zs) : ∃ i z, P.info? t = some i ∧ i.zero = some z ∧ ∀ σ, RepL σ z.cells.toList zs := by
  unfold zeroD at h
  split at h
  · rename_i i hi
    split at h
    · rename_i z hz
      split at h
      · rename_i hall
        cases h
        refine ⟨i, z, hi, hz, fun σ => ⟨by simp, fun j v d hv hd => ?_⟩⟩
        simp only [List.getElem?_map, Option.map_eq_some_iff] at hd
        obtain ⟨v', hv', rfl⟩ := hd
        rw [hv] at hv'
        cases hv'
        exact rep_cD (List.all_eq_true.1 hall v (List.mem_of_getElem? hv))
      · cases h
    · cases h
  · cases h

def fieldPlaces (P : Program) : List Field → Option (List (Nat × Nat))
  | [] => some []
  | f :: r => match P.info? f.type, fieldPlaces P r with
    | some i, some ps => some ((f.offset, i.size) :: ps)
    | _, _ => none

theorem fieldPlaces_run {P : Program} : ∀ {fs : List Field} {ps : List (Nat × Nat)} (h : fieldPlaces P fs = some ps) (w : World),
    (fs.mapM (fun f => do pure (f.offset, ← sizeOf f.type) : Field → Sem (Nat × Nat))).run P w = .ok ps w
  | [], ps, h, w => by cases h; simp
  | f :: r, ps, h, w => by
    unfold fieldPlaces at h
    split at h
    · rename_i i ps' hi hps
      cases h
      simp [List.mapM_cons, sizeOf, typeInfo, hi, fieldPlaces_run hps w]
      have := fieldPlaces_run hps w
      simp [sizeOf, typeInfo] at this
      simp [this]
    · cases h

def buildT (P : Program) (t : TypeId) : Option (List (Nat × Nat)) :=
  match P.underlying t with
  | some (.struct fs) => fieldPlaces P fs.toList
  | _ => none

section
variable {P : Program} {E : Operand → AV} {st : List AO}

theorem parts_rep {σ : Sig} {gh} (ρ : Operand → Value) (parts : List (Nat × Operand)) (hρ : ∀ x ∈ parts.map (·.2), RepA σ gh st (ρ x) (E x)) :
    ∀ (j : Nat) x y, (parts.map fun p => (p.1, ρ p.2))[j]? = some x → (parts.map fun p => (p.1, E p.2))[j]? = some y → x.1 = y.1 ∧ RepA σ gh st x.2 y.2 := by
  intro j x y hx hy
  simp only [List.getElem?_map, Option.map_eq_some_iff] at hx hy
  obtain ⟨p, hp, rfl⟩ := hx
  obtain ⟨q, hq, rfl⟩ := hy
  rw [hp] at hq
  cases hq
  exact ⟨rfl, hρ _ (List.mem_map.2 ⟨p, List.mem_of_getElem? hp, rfl⟩)⟩

theorem op_build (t : TypeId) (parts : Array (Nat × Operand)) (zs ds : List D) (ps : List (Nat × Nat)) (hz : zeroD P t = some zs) (hp : buildT P t = some ps)
    (hf : fillD (ps[·]?) zs (parts.toList.map fun p => (p.1, E p.2)) = some ds) : OpS P (.build t parts) E st (.agg ds) st :=
  op_pure fun o ho w0 σ0 σ gh ρ w hb hρ => by
    obtain ⟨i, z, hi, hz', hrz⟩ := zeroD_spec hz
    unfold buildT at hp
    split at hp <;> try cases hp
    rename_i fs hu
    have hpr := parts_rep (E := E) (st := st) (σ := σ) (gh := gh) ρ parts.toList (fun x hx => hρ x (by simpa [Op.operands] using hx))
    obtain ⟨cs', h1, h2⟩ := fill_rep (σ := σ) (gh := gh) (st := st) (ps[·]?) _ _ z.cells zs ds (by simp) hpr (hrz σ) hf
    refine ⟨.agg cs', ?_, cs'.toList, by simp, h2⟩
    have hm := fieldPlaces_run hp w
    have hm' : (fs.mapM (fun f => do pure (f.offset, ← sizeOf f.type) : Field → Sem (Nat × Nat))).run P w = .ok ps.toArray w := by
      rw [Array.mapM_eq_mapM_toList, Sem.run_map, hm]; rfl
    have hpp : (parts.map fun p => (p.1, ρ p.2)).toList = parts.toList.map fun p => (p.1, ρ p.2) := by simp
    simp only [execOp, ho, Instr.build, zeroValue, typeInfo, Sem.run_bind, run_program, Result.andThen_ok, hi, Sem.run_pure, hz', run_underlying hu, hm']
    have h1' : Instr.fill (fun x => ps.toArray[x]?) z.cells (parts.map fun p => (p.1, ρ p.2)).toList = some cs' := by rw [hpp]; simpa using h1
    simp [h1]

/-- cut into rows -/
def chunk (sz : Nat) (ds : List D) : Nat → List (List D)
  | 0 => []
  | n + 1 => ds.take sz :: chunk sz (ds.drop sz) n

theorem chunk_get (sz : Nat) : ∀ (n : Nat) (ds : List D) (i : Nat) x, (chunk sz ds n)[i]? = some x → i < n ∧ x = (ds.drop (i * sz)).take sz
  | 0, ds, i, x, h => by simp [chunk] at h
  | n + 1, ds, i, x, h => by
    cases i with
    | zero => simp [chunk] at h; subst h; simp
    | succ i =>
      simp only [chunk, List.getElem?_cons_succ] at h
      obtain ⟨h1, h2⟩ := chunk_get sz n _ i x h
      refine ⟨by omega, ?_⟩
      rw [h2, List.drop_drop]
      congr 2
      rw [Nat.add_mul]; omega

theorem chunk_length (sz : Nat) : ∀ (n : Nat) (ds : List D), (chunk sz ds n).length = n
  | 0, _ => rfl
  | n + 1, ds => by simp [chunk, chunk_length sz n]

theorem op_buildSlice (t e : TypeId) (sz len : Nat) (parts : Array (Nat × Operand)) (zs ds : List D) (ht : elT P t = some (e, sz)) (hz : zeroD P e = some zs) (hzl : zs.length = sz) (hpos : 0 < len * sz) (hmax : len * sz ≤ 16777216)
    (hf : fillD (fun i => some (i * sz, sz)) ((List.range (len * sz)).map fun i => zs.getD (i % sz) .nils) (parts.toList.map fun p => (p.1, E p.2)) = some ds) (hdl : ds.length = len * sz) :
    OpS P (.buildSlice t len parts) E st (.d (.full sz (chunk sz ds len))) st := by
  intro o ho w0 σ0 σ gh ρ w hb hρ
  obtain ⟨i, z, hi, hz', hrz⟩ := zeroD_spec hz
  obtain ⟨hu, i', hi', hsz⟩ := elT_spec ht
  rw [hi] at hi'
  cases hi'
  have hpr := parts_rep (E := E) (st := st) (σ := σ) (gh := gh) ρ parts.toList (fun x hx => hρ x (by simpa [Op.operands] using hx))
  have hzr := hrz σ
  have hzs : z.cells.size = sz := by have := hzr.1; simpa [hzl] using this
  have hsp : 0 < sz := Nat.pos_of_mul_pos_left hpos
  have hbase : RepL σ ((Array.range (len * sz)).map (fun x => z.cells[x % z.cells.size]!)).toList ((List.range (len * sz)).map fun i => zs.getD (i % sz) .nils) := by
    refine ⟨by simp, fun j v d hv hd => ?_⟩
    simp only [List.getElem?_map, Option.map_eq_some_iff, Array.toList_map, Array.toList_range] at hv hd
    obtain ⟨j1, hj1, rfl⟩ := hv
    obtain ⟨j2, hj2, rfl⟩ := hd
    rw [hj1] at hj2
    cases hj2
    have hlt : j1 % sz < z.cells.size := by rw [hzs]; exact Nat.mod_lt _ hsp
    have hlt2 : j1 % sz < zs.length := by rw [hzl]; exact Nat.mod_lt _ hsp
    have e1 : z.cells[j1 % z.cells.size]! = z.cells[j1 % sz] := by rw [hzs]; exact getElem!_pos z.cells _ hlt
    rw [e1]
    refine hzr.2 (j1 % sz) _ _ (by simp [hlt]) (by simp [List.getD, hlt2])
  obtain ⟨cs', h1, h2⟩ := fill_rep (σ := σ) (gh := gh) (st := st) (fun i => some (i * sz, sz)) _ _ _ _ ds (by simp) hpr hbase hf
  have hpp : (parts.map fun p => (p.1, ρ p.2)).toList = parts.toList.map fun p => (p.1, ρ p.2) := by simp
  have h1' : Instr.fill (fun i => some (i * sz, sz)) ((Array.range (len * sz)).map (fun x => z.cells[x % z.cells.size]!)) (parts.map fun p => (p.1, ρ p.2)).toList = some cs' := by rw [hpp]; exact h1
  have hrun : (execOp ρ o).run P w = .ok (.value (.slice (some ⟨w.heap.size, 0, none⟩) len len)) (w.alloc (.cells cs' e)) := by
    have hm : ¬ (len * sz > 2 ^ 24) := by omega
    have h0 : ¬ (len * sz = 0) := by omega
    simp only [execOp, ho, Instr.buildSlice, Sem.run_bind, run_underlying hu, Result.andThen_ok, sizeOf, typeInfo, run_program, hi, Sem.run_pure, hsz, hm, if_false, h0, zeroValue, hz']
    simp [newRow, h1]
  rw [hrun]
  have hone : ∀ v ∈ cs', v.oneCell' = true := fun v hv => by
    obtain ⟨j, hj, rfl⟩ := List.getElem_of_mem (by simpa using hv : v ∈ cs'.toList)
    have hj' : j < ds.length := by rw [← h2.1]; exact hj
    exact (h2.2 j _ ds[j] (by simp [hj]) (by simp [hj'])).one
  have hf' := new_sealed hb cs' e hone
  have hle := Sig.le_seal (hb.sl.fresh (Nat.le_refl _)) cs'.toList
  refine ⟨_, gh, hf', ?_⟩
  have hcl : cs'.size = len * sz := by have := h2.1; simp at this; omega
  have hlen : 0 < len := Nat.pos_of_mul_pos_right hpos
  have hbnd : ∀ i j, i < len → j < sz → i * sz + j < len * sz := fun i j hi' hj => by
    calc i * sz + j < i * sz + sz := by omega
      _ = (i + 1) * sz := by rw [Nat.add_mul]; omega
      _ ≤ len * sz := Nat.mul_le_mul_right _ (by omega)
  refine Rep.full ?_ (fun a n c h => by cases h; rfl)
  refine Rep.list (fun i j => cs'.getD (i * sz + j) undef) (chunk_length sz len ds).symm hlen (Nat.le_refl _) ?_ (fun i x hx => ?_) (fun i j hi' hj => ?_) (fun i j x d hx hd => ?_)
  · have : len ≤ len * sz := Nat.le_mul_of_pos_right _ hsp
    simp only [maxLen]; omega
  · obtain ⟨h3, rfl⟩ := chunk_get sz len ds i x hx
    have := Nat.mul_le_mul_right sz (show i + 1 ≤ len by omega)
    rw [Nat.add_mul] at this
    simp; omega
  · have := hbnd i j hi' hj
    simp [Sig.shut, Array.getD, hcl, this]
  · obtain ⟨h3, rfl⟩ := chunk_get sz len ds i x hx
    have hj : j < sz := by have := (List.getElem?_eq_some_iff.1 hd).1; simp at this; omega
    rw [List.getElem?_take_of_lt hj, List.getElem?_drop] at hd
    have hlt := hbnd i j h3 hj
    have : Rep σ (cs'.getD (i * sz + j) undef) d := h2.2 (i * sz + j) _ d (by simp [Array.getD, hcl, hlt]) hd
    exact this.mono hle

theorem OpS.weaken {op : Op} {st' : List AO} {v v' : AV} (h : OpS P op E st v st') (hv : ∀ σ gh u, RepA σ gh st' u v → RepA σ gh st' u v') (hj : v = .junk → v' = .junk) : OpS P op E st v' st' := by
  intro o ho w0 σ0 σ gh ρ w hb hρ
  have := h o ho w0 σ0 σ gh ρ w hb hρ
  unfold Out at this ⊢
  split
  · rename_i u w' e
    rw [e] at this
    obtain ⟨σ', gh', h1, h2⟩ := this
    exact ⟨σ', gh', h1, hv _ _ _ h2⟩
  · rename_i w' e
    rw [e] at this
    exact ⟨hj this.1, this.2⟩
  · rename_i f args w' e
    rw [e] at this
    exact this.mono fun _ _ ⟨u, h0, σ', gh', h1, h2⟩ => ⟨u, h0, σ', gh', h1, hv _ _ _ h2⟩
  · rename_i hn1 hn2 hn3
    split at this
    · rename_i u w' e; exact (hn1 _ _ e).elim
    · rename_i w' e; exact (hn2 _ e).elim
    · rename_i f args w' e; exact (hn3 _ _ _ e).elim
    · exact this

theorem full_list {σ : Sig} {v : Value} {sz : Nat} {xs} (h : Rep σ v (.full sz xs)) : Rep σ v (.list sz xs) := by cases h; assumption

theorem op_extract (x : Operand) (i : Nat) (vs : List DV) (d : DV) (hx : E x = .tup vs) (hd : vs[i]? = some d) : OpS P (.extract x i) E st (.v d) st :=
  op_pure fun o ho w0 σ0 σ gh ρ w hb hρ => by
    have h1 := hρ x (by simp [Op.operands])
    rw [hx] at h1
    obtain ⟨us, e1, hl, hr⟩ := h1
    have hi : i < us.length := by rw [hl]; exact (List.getElem?_eq_some_iff.1 hd).1
    exact ⟨us[i], by simp [execOp, ho, e1, Instr.extract, hi], hr i _ d (by simp [hi]) hd⟩

theorem op_convert_int (s d : TypeId) (x : Operand) (k k' : IntKind) (n : Int) (u : TypeDesc) (hs : P.underlying s = some u) (hd : P.underlying d = some (.int k)) (hx : E x = .sc (.int k' n)) (hu : u = .int k') :
    OpS P (.convert s d x) E st (.sc (.int k (k.wrap n))) st :=
  op_pure fun o ho w0 σ0 σ gh ρ w hb hρ => by
    have h1 := hρ x (by simp [Op.operands])
    rw [hx] at h1
    subst hu
    exact ⟨_, by simp [execOp, ho, RepA_sc h1, convert, run_underlying hs, run_underlying hd, Conv.intToInt], RepA_of_sc rfl⟩

theorem op_makeFunc (f : FuncId) : OpS P (.makeFunc (.func f) #[] #[]) E st (.sc (.func (.func f) #[] #[])) st :=
  op_pure fun o ho w0 σ0 σ gh ρ w hb hρ => ⟨_, by simp [execOp, ho, Instr.makeFunc], RepA_of_sc rfl⟩

/-- an element's address in a row of one's own -/
theorem op_indexAddr_h (t e : TypeId) (sz : Nat) (x i : Operand) (k : IntKind) (m : Int) (s v lo n e' : Nat) (xs : List (List D)) (ht : elT P t = some (e, sz)) (hx : E x = .h s v lo n) (hi : E i = .sc (.int k m))
    (hst : st[s]? = some (.row v e' sz xs)) (h0 : 0 ≤ m) (h1 : m < n) : OpS P (.indexAddr t x i) E st (.ep s v (lo + m.toNat) 0) st :=
  op_pure fun o ho w0 σ0 σ gh ρ w hb hρ => by
    have h2 := hρ x (by simp [Op.operands])
    have h3 := hρ i (by simp [Op.operands])
    rw [hx] at h2
    rw [hi] at h3
    have h3 := RepA_sc h3
    obtain ⟨hu, ti, hinfo, rfl⟩ := elT_spec ht
    obtain ⟨g, hg, hR, A, c, hv⟩ := h_val hb hst h2
    obtain ⟨vals, hown, _⟩ := hb.obj s _ _ hst hg
    have hn : 0 < n := by omega
    have hlen := hR.1
    have : ∃ b m' c', g = .slice (some ⟨b, 0, none⟩) m' c' ∧ A = some ⟨b, lo * ti.size, none⟩ := by
      obtain ⟨h0, ⟨a1, a2, a3⟩ | ⟨b, m, c2, a1, a2, ⟨a3, _⟩ | a3⟩⟩ := hR
      · rcases hown.2 with ⟨e1, e2⟩ | ⟨b, cap, cur, e1, _⟩
        · omega
        · rw [hv, e1] at a3
          injection a3 with a4 a5 a6
          exact ⟨b, _, _, e1, by rw [a4, a1]; simp⟩
      · omega
      · rw [hv] at a3
        injection a3 with a4 a5 a6
        exact ⟨b, _, _, a1, a4⟩
    obtain ⟨b, m', c', hgv, hA⟩ := this
    refine ⟨.pointer (some ⟨b, lo * ti.size + m.toNat * ti.size, none⟩), ?_, g, _, hg, hst, fun k' e2 sz2 xs2 heq => ?_⟩
    · simp [execOp, ho, hv, hA, h3, Instr.indexAt, asIntOf, run_underlying hu, sizeOf, typeInfo, hinfo, h0, h1, add_lit]
    · cases heq
      refine ⟨Nat.le_refl _, fun _ => ⟨by omega, b, m', c', hgv, by rw [Nat.add_mul, Nat.add_zero]⟩⟩

theorem ep_val {w0 : World} {σ0 σ gh w} (hb : Base w0 σ0 σ gh st w) {s v i off e sz : Nat} {xs} (hst : st[s]? = some (.row v e sz xs)) {u : Value} (h : RepA σ gh st u (.ep s v i off)) :
    ∃ g b m c cap cur vals, gh[s]? = some g ∧ g = .slice (some ⟨b, 0, none⟩) m c ∧ u = .pointer (some ⟨b, i * sz + off, none⟩) ∧ i < xs.length ∧ w0.heap.size ≤ b ∧ w.heap[b]? = some (.cells cur e (0, 0)) ∧
      m = xs.length ∧ c = cap ∧ xs.length ≤ cap ∧ cap ≤ maxLen ∧ cur.size = cap * sz ∧ cur.toList.take (xs.length * sz) = vals ∧ vals.length = xs.length * sz ∧ RepRows σ vals sz xs ∧ Uns σ b ∧ (∀ v ∈ vals, v.oneCell' = true) := by
  obtain ⟨g, o, h1, h2, h3⟩ := h
  rw [hst] at h2
  cases h2
  obtain ⟨hi, b, m, c, h4, h5⟩ := (h3 _ _ _ _ rfl).2 rfl
  obtain ⟨vals, hown, hsz, hval, huns, hone⟩ := hb.obj s _ _ hst h1
  rcases hown.2 with ⟨e1, e2⟩ | ⟨b', cap, cur, e1, e2, e3, e4, e5, e6, e7⟩
  · omega
  · rw [h4] at e1
    cases e1
    exact ⟨g, b, xs.length, c, c, cur, vals, h1, h4, h5, hi, e2, e3, rfl, rfl, e4, e5, e6, e7, hown.1, ⟨hsz, hval⟩, huns b (by simp [h4, blkOf]), hone⟩

theorem op_load_ep1 (t : TypeId) (x : Operand) (n s v i off e sz : Nat) (d : D) (xs : List (List D)) (cells : List D) (ht : ldT P t = some (n, false)) (hx : E x = .ep s v i off) (hst : st[s]? = some (.row v e sz xs))
    (hc : xs[i]? = some cells) (hd : cells[off]? = some d) : OpS P (.load t x) E st (.d d) st :=
  op_pure fun o ho w0 σ0 σ gh ρ w hb hρ => by
    have h1 := hρ x (by simp [Op.operands])
    rw [hx] at h1
    obtain ⟨g, b, m, c, cap, cur, vals, a1, a2, a3, a4, a5, a6, a7, a8, a9, a10, a11, a12, a13, a14, a15, a16⟩ := ep_val hb hst h1
    obtain ⟨u, b1, b2⟩ := a14.2 i off cells d hc hd
    have hcell : w.cell? ⟨b, i * sz + off, none⟩ = some u := by
      rw [cell_of_row w b _ cur e (0, 0) a6]
      rw [← a12, List.getElem?_take] at b1
      split at b1
      · simpa using b1
      · cases b1
    exact ⟨u, by simp [execOp, ho, a3, Instr.loadAt, Instr.sureAddr, run_loadVar_one ht hcell], b2⟩

theorem op_load_ep (t : TypeId) (x : Operand) (n s v i off e sz : Nat) (xs : List (List D)) (cells : List D) (ht : ldT P t = some (n, true)) (hx : E x = .ep s v i off) (hst : st[s]? = some (.row v e sz xs))
    (hc : xs[i]? = some cells) (hn : off + n ≤ cells.length) : OpS P (.load t x) E st (.agg ((cells.drop off).take n)) st :=
  op_pure fun o ho w0 σ0 σ gh ρ w hb hρ => by
    have h1 := hρ x (by simp [Op.operands])
    rw [hx] at h1
    obtain ⟨g, b, m, c, cap, cur, vals, a1, a2, a3, a4, a5, a6, a7, a8, a9, a10, a11, a12, a13, a14, a15, a16⟩ := ep_val hb hst h1
    have hcs := a14.1 _ _ hc
    have hle : i * sz + off + n ≤ vals.length := by
      rw [a13]
      calc i * sz + off + n ≤ i * sz + sz := by omega
        _ = (i + 1) * sz := by rw [Nat.add_mul]; omega
        _ ≤ xs.length * sz := Nat.mul_le_mul_right _ (by omega)
    have hr := run_loadVar_agg (P := P) ht (w := w) (b := b) (o := i * sz + off) ((vals.drop (i * sz + off)).take n) (by simp; omega) (fun j u hu => by
      rw [List.getElem?_take] at hu
      split at hu
      · rw [List.getElem?_drop, ← a12, List.getElem?_take] at hu
        split at hu
        · rw [cell_of_row w b _ cur e (0, 0) a6]; simpa using hu
        · cases hu
      · cases hu)
    refine ⟨.agg ((vals.drop (i * sz + off)).take n).toArray, by simp [execOp, ho, a3, Instr.loadAt, Instr.sureAddr, hr], _, rfl, by simp; omega, fun j u d hu hd => ?_⟩
    have hj : j < n := by have := (List.getElem?_eq_some_iff.1 hd).1; simp at this; omega
    rw [List.getElem?_take_of_lt hj, List.getElem?_drop] at hu hd
    obtain ⟨u', b1, b2⟩ := a14.2 i (off + j) cells d hc hd
    rw [Nat.add_assoc] at hu
    rw [hu] at b1
    cases b1
    exact b2

end
end Go.Proofs.Nw.K
end
section
/- K10: code: sequences, branches, loops, regions; calls; contracts. -/
open Go Go.RowKit
set_option linter.unusedVariables false
set_option linter.unusedSimpArgs false
namespace Go.Proofs.Nw.K

abbrev Env := Nat → AV

/-- how things stood when the function was entered -/
structure Ini where
  σ : Sig
  gh : List Value
  st : List AO

/-- a frame: its slots; how many own things there were at the entry -/
structure Fm where
  n : Nat
  o : Nat

def Rel (N : Fm) (w0 : World) (σ0 : Sig) (I : Ini) (env : Env) (st : List AO) (a : Act) (w : World) : Prop :=
  a.tmps.size = N.n ∧ a.defers = [] ∧ I.gh.length = N.o ∧ ∃ σ gh, Base w0 σ0 σ gh st w ∧ (∀ v a, RepA I.σ I.gh I.st v a → RepA σ gh st v a) ∧ ∀ t, RepA σ gh st (a.tmps.getD t undef) (env t)

abbrev Post := Exit → Env → List AO → Prop

def Lift (N : Fm) (w0 : World) (σ0 : Sig) (I : Ini) (Q : Post) : Exit → Act → World → Prop
  | .panic _, _, _ => False
  | .outgrown, _, _ => False
  | e, a, w => ∃ env st, Rel N w0 σ0 I env st a w ∧ Q e env st

def WP (P : Program) (N : Fm) (c : Code) (env : Env) (st : List AO) (Q : Post) : Prop :=
  ∀ w0 σ0 I a w, Rel N w0 σ0 I env st a w → c.wp P (Lift N w0 σ0 I Q) a w

/-- what may stand for what -/
def Sub (N : Fm) (env : Env) (st : List AO) (env' : Env) (st' : List AO) : Prop := ∀ w0 σ0 I a w, Rel N w0 σ0 I env st a w → Rel N w0 σ0 I env' st' a w

theorem Sub.refl (N env st) : Sub N env st env st := fun _ _ _ _ _ h => h
theorem Sub.trans {N a b c d e f} (h : Sub N a b c d) (k : Sub N c d e f) : Sub N a b e f := fun _ _ _ _ _ x => k _ _ _ _ _ (h _ _ _ _ _ x)

section
variable {P : Program} {N : Fm} {env : Env} {st : List AO} {Q : Post}

theorem WP_sub {c : Code} {env' st'} (hs : Sub N env st env' st') (h : WP P N c env' st' Q) : WP P N c env st Q :=
  fun w0 σ0 I a w hr => h w0 σ0 I a w (hs _ _ _ _ _ hr)

theorem WP_mono {c : Code} {Q' : Post} (h : WP P N c env st Q) (hq : ∀ e env st, Q e env st → Q' e env st) : WP P N c env st Q' :=
  fun w0 σ0 I a w hr => wp_mono (h w0 σ0 I a w hr) fun e a w q => by
    cases e <;> first | exact q | (obtain ⟨env, st, h1, h2⟩ := q; exact ⟨env, st, h1, hq _ _ _ h2⟩)

def Then (K : Env → List AO → Prop) (Q : Post) : Post
  | .normal, env, st => K env st
  | e, env, st => Q e env st

theorem WP_seq {x y : Code} (h : WP P N x env st (Then (fun env st => WP P N y env st Q) Q)) : WP P N (.seq x y) env st Q :=
  fun w0 σ0 I a w hr => wp_seq (wp_mono (h w0 σ0 I a w hr) fun e a w q => by
    cases e with
    | normal => obtain ⟨env, st, h1, h2⟩ := q; exact h2 w0 σ0 I a w h1
    | _ => exact q)

theorem WP_skip (h : Q .normal env st) : WP P N .skip env st Q := fun w0 σ0 I a w hr => wp_skip ⟨env, st, hr, h⟩
theorem WP_label {l : Nat} (h : Q .normal env st) : WP P N (.label l) env st Q := fun w0 σ0 I a w hr => wp_label ⟨env, st, hr, h⟩
theorem WP_exit {l : Nat} (h : Q (.exit l) env st) : WP P N (.exit l) env st Q := fun w0 σ0 I a w hr => wp_exit ⟨env, st, hr, h⟩
theorem WP_goto {l : Nat} (h : Q (.goto l) env st) : WP P N (.goto l) env st Q := fun w0 σ0 I a w hr => wp_goto ⟨env, st, hr, h⟩
theorem WP_ret (h : Q .ret env st) : WP P N .ret env st Q := fun w0 σ0 I a w hr => wp_ret ⟨env, st, hr, h⟩

theorem eval_rep {σ : Sig} {gh : List Value} {a : Act} (hr : ∀ t, RepA σ gh st (a.tmps.getD t undef) (env t)) (x : Operand) : RepA σ gh st (a.eval x) (evalE env x) := by
  cases x with
  | tmp t => exact hr t
  | const v =>
    unfold evalE
    simp only
    split
    · rename_i h; exact repV_cAV h
    · trivial
  | global g => trivial
  | func f => exact RepA_of_sc rfl

theorem WP_cond {c : Operand} {x y : Code} {b : Bool} (hc : evalE env c = .bool b) (h1 : b = true → WP P N x env st Q) (h2 : b = false → WP P N y env st Q) : WP P N (.cond c x y) env st Q :=
  fun w0 σ0 I a w hr => by
    obtain ⟨σ, gh, hb, hk, he⟩ := hr.2.2.2
    have h := eval_rep he c
    rw [hc] at h
    exact wp_cond_split (RepA_sc h) (fun e => h1 e w0 σ0 I a w hr) (fun e => h2 e w0 σ0 I a w hr)

theorem WP_cond_t {c : Operand} {x y : Code} (hc : evalE env c = .bool true) (h1 : WP P N x env st Q) : WP P N (.cond c x y) env st Q := WP_cond hc (fun _ => h1) (fun h => by cases h)
theorem WP_cond_f {c : Operand} {x y : Code} (hc : evalE env c = .bool false) (h1 : WP P N y env st Q) : WP P N (.cond c x y) env st Q := WP_cond hc (fun h => by cases h) (fun _ => h1)

def InBlock (id : Nat) (Q : Post) : Post
  | .exit id', env, st => if id' = id then Q .normal env st else Q (.exit id') env st
  | e, env, st => Q e env st

theorem WP_block {id : Nat} {c : Code} (h : WP P N c env st (InBlock id Q)) : WP P N (.block id c) env st Q :=
  fun w0 σ0 I a w hr => wp_block (wp_mono (h w0 σ0 I a w hr) fun e a w q => by
    cases e with
    | exit id' =>
      obtain ⟨env, st, h1, h2⟩ := q
      simp only [InBlock] at h2
      simp only [Exit.inBlock]
      split at h2
      · rename_i e; rw [if_pos e]; exact ⟨env, st, h1, h2⟩
      · rename_i e; rw [if_neg e]; exact ⟨env, st, h1, h2⟩
    | _ => exact q)

theorem has_least (p : Nat → Prop) (h : ∃ n, p n) : ∃ n, p n ∧ ∀ m, p m → n ≤ m := by
  obtain ⟨n, hn⟩ := h
  induction n using Nat.strongRecOn with
  | _ n ih =>
    by_cases hm : ∃ m, m < n ∧ p m
    · obtain ⟨m, h1, h2⟩ := hm; exact ih m h1 h2
    · exact ⟨n, hn, fun m hpm => Nat.le_of_not_lt fun h => hm ⟨m, h, hpm⟩⟩

open Classical in
noncomputable def least (p : Nat → Prop) : Nat := if h : ∃ n, p n then (has_least p h).choose else 0

theorem least_spec {p : Nat → Prop} (h : ∃ n, p n) : p (least p) ∧ ∀ m, p m → least p ≤ m := by
  unfold least
  rw [dif_pos h]
  exact (has_least p h).choose_spec

/-- a loop: what holds at its head, for each x; each round comes to a lesser one -/
theorem WP_loop {c : Code} {α : Type} (E : α → Env) (S : α → List AO) (μ : α → Nat) (x0 : α) (h0 : Sub N env st (E x0) (S x0))
    (h : ∀ x, WP P N c (E x) (S x) (Then (fun env st => ∃ x', μ x' < μ x ∧ Sub N env st (E x') (S x')) Q)) : WP P N (.loop c) env st Q :=
  fun w0 σ0 I a w hr => by
    refine wp_loop (P := P) (c := c) (Q := Lift N w0 σ0 I Q) (a := a) (w := w) (fun a w => ∃ x, Rel N w0 σ0 I (E x) (S x) a w)
      (fun a w => least (fun n => ∃ x, μ x = n ∧ Rel N w0 σ0 I (E x) (S x) a w)) ⟨x0, h0 _ _ _ _ _ hr⟩ ?_
    intro a w ⟨x, hx⟩
    obtain ⟨⟨y, hy1, hy2⟩, hmin⟩ := least_spec (p := fun n => ∃ x, μ x = n ∧ Rel N w0 σ0 I (E x) (S x) a w) ⟨μ x, x, rfl, hx⟩
    refine wp_mono (h y w0 σ0 I a w hy2) fun e a' w' q => ?_
    cases e with
    | normal =>
      obtain ⟨env', st', h1, x', h2, h3⟩ := q
      have hr' := h3 _ _ _ _ _ h1
      refine ⟨⟨x', hr'⟩, ?_⟩
      have := (least_spec (p := fun n => ∃ x, μ x = n ∧ Rel N w0 σ0 I (E x) (S x) a' w') ⟨μ x', x', rfl, hr'⟩).2 _ ⟨x', rfl, hr'⟩
      omega
    | _ => exact q

/-- as Q; by a goto to this label: J -/
def Jump (l : Nat) (J : Env → List AO → Prop) (Q : Post) : Post
  | .goto l', env, st => l' = l ∧ J env st
  | e, env, st => Q e env st

/-- a scope with one label that the run jumps back to -/
theorem WP_scope {c rest : Code} {α : Type} (l : Nat) (E : α → Env) (S : α → List AO) (μ : α → Nat) (hf : findLabel c l = some rest)
    (h0 : WP P N c env st (Jump l (fun env st => ∃ x, Sub N env st (E x) (S x)) Q))
    (h : ∀ x, WP P N rest (E x) (S x) (Jump l (fun env st => ∃ x', μ x' < μ x ∧ Sub N env st (E x') (S x')) Q)) : WP P N (.scope c) env st Q :=
  fun w0 σ0 I a w hr => by
    refine wp_scope_jumps (P := P) (Q := Lift N w0 σ0 I Q) l (fun a w => ∃ x, Rel N w0 σ0 I (E x) (S x) a w)
      (fun a w => least (fun n => ∃ x, μ x = n ∧ Rel N w0 σ0 I (E x) (S x) a w)) hf ?_ ?_
    · refine wp_mono (h0 w0 σ0 I a w hr) fun e a' w' q => ?_
      cases e with
      | goto l' => obtain ⟨env', st', h1, h2, x, h3⟩ := q; exact ⟨h2, x, h3 _ _ _ _ _ h1⟩
      | _ => exact q
    · intro a w ⟨x, hx⟩
      obtain ⟨⟨y, hy1, hy2⟩, hmin⟩ := least_spec (p := fun n => ∃ x, μ x = n ∧ Rel N w0 σ0 I (E x) (S x) a w) ⟨μ x, x, rfl, hx⟩
      refine wp_mono (h y w0 σ0 I a w hy2) fun e a' w' q => ?_
      cases e with
      | goto l' =>
        obtain ⟨env', st', h1, h4, x', h2, h3⟩ := q
        have hr' := h3 _ _ _ _ _ h1
        refine ⟨h4, ⟨x', hr'⟩, ?_⟩
        have := (least_spec (p := fun n => ∃ x, μ x = n ∧ Rel N w0 σ0 I (E x) (S x) a' w') ⟨μ x', x', rfl, hr'⟩).2 _ ⟨x', rfl, hr'⟩
        omega
      | _ => exact q

/-- .. of which the run comes to the label by itself -/
theorem WP_scope_cut {c rest : Code} {α : Type} (l : Nat) (E : α → Env) (S : α → List AO) (μ : α → Nat) (hf : findLabel c l = some (.seq .skip rest))
    (h : ∀ x, WP P N rest (E x) (S x) (Jump l (fun env st => ∃ x', μ x' < μ x ∧ Sub N env st (E x') (S x')) Q))
    (h0 : (∀ x env st, Sub N env st (E x) (S x) → WP P N (.seq (.label l) rest) env st (Jump l (fun env st => ∃ x, Sub N env st (E x) (S x)) Q)) → WP P N c env st (Jump l (fun env st => ∃ x, Sub N env st (E x) (S x)) Q)) : WP P N (.scope c) env st Q :=
  WP_scope l E S μ hf (h0 fun x env st hs => WP_seq (WP_label (WP_sub hs (WP_mono (h x) fun e env st q => by
    cases e with
    | goto l' => obtain ⟨h1, x', _, h2⟩ := q; exact ⟨h1, x', h2⟩
    | _ => exact q)))) fun x => WP_seq (WP_skip (h x))

/-- a scope through which the run goes straight -/
def NoGoto (Q : Post) : Post
  | .goto _, _, _ => False
  | e, env, st => Q e env st

theorem WP_scope0 {c : Code} (h : WP P N c env st (NoGoto Q)) : WP P N (.scope c) env st Q :=
  fun w0 σ0 I a w hr => wp_scope_straight (wp_mono (h w0 σ0 I a w hr) fun e a' w' q => by
    cases e with
    | goto l => obtain ⟨_, _, _, h⟩ := q; exact h
    | _ => exact q)

/-! ### regions -/
def WPL (P : Program) (N : Fm) (ops : Array Oper) (l : List Oper) (env : Env) (st : List AO) (K : Env → List AO → Prop) : Prop :=
  ∀ w0 σ0 I a w, Rel N w0 σ0 I env st a w → wpList P ops (Lift N w0 σ0 I (Then K fun _ _ _ => False)) l a w

theorem WP_region {id : Nat} {l : List Oper} (h : WPL P N l.toArray l env st (Q .normal)) : WP P N (.region id l.toArray false) env st Q :=
  fun w0 σ0 I a w hr => by
    refine wp_mono (wp_region_lit (h w0 σ0 I a w hr)) fun e a w q => ?_
    cases e <;> first | exact q | (obtain ⟨_, _, _, h⟩ := q; exact h.elim)

def updO (env : Env) (dst : Option Tmp) (v : AV) : Env := match dst with | some d => upd env d v | none => env

theorem put_getD (a : Act) (d t : Nat) (u : Value) (hd : d < a.tmps.size) : (a.put (some d) u).tmps.getD t undef = if t = d then u else a.tmps.getD t undef := by
  simp only [Act.put, Array.getD_eq_getD_getElem?, Array.getElem?_setIfInBounds]
  by_cases e : d = t
  · subst e; simp [hd]
  · have : ¬ t = d := fun h => e h.symm
    simp [e, this]

theorem rel_put {w0 : World} {σ0 : Sig} {I : Ini} {a : Act} {w' : World} {env : Env} {st' : List AO} {σ' gh'} (hs : a.tmps.size = N.n) (hd : a.defers = []) (hI : I.gh.length = N.o) (hk : ∀ v a, RepA I.σ I.gh I.st v a → RepA σ' gh' st' v a) (hb : Base w0 σ0 σ' gh' st' w') (he : ∀ t, RepA σ' gh' st' (a.tmps.getD t undef) (env t))
    (dst : Option Tmp) (hdst : ∀ d, dst = some d → d < N.n) {u : Value} {v : AV} (hv : RepA σ' gh' st' u v) : Rel N w0 σ0 I (updO env dst v) st' (a.put dst u) w' := by
  cases dst with
  | none => exact ⟨hs, hd, hI, σ', gh', hb, hk, he⟩
  | some d =>
    have hlt : d < a.tmps.size := by rw [hs]; exact hdst d rfl
    refine ⟨by simp [Act.put, hs], by simp [Act.put, hd], hI, σ', gh', hb, hk, fun t => ?_⟩
    rw [put_getD a d t u hlt]
    simp only [updO, upd]
    split
    · exact hv
    · exact he t

variable {ops : Array Oper} {rest : List Oper} {K : Env → List AO → Prop}

theorem WPL_nil (h : K env st) : WPL P N ops [] env st K := fun w0 σ0 I a w hr => ⟨env, st, hr, h⟩

theorem op_wp {o : Oper} {v : AV} {st' : List AO} (ho : OpS P o.op (evalE env) st v st') (hd : ∀ d, o.dst = some d → d < N.n) {w0 σ0 I a w} (hr : Rel N w0 σ0 I env st a w) {K' : Act → World → Prop} {Q' : Exit → Act → World → Prop}
    (hk : ∀ a w, Rel N w0 σ0 I (updO env o.dst v) st' a w → K' a w) : o.wp P a w K' Q' := by
  obtain ⟨h1, h2, hI, σ, gh, hb, hk0, he⟩ := hr
  have := ho o rfl w0 σ0 σ gh a.eval w hb (fun x _ => eval_rep he x)
  unfold Oper.wp
  generalize (execOp a.eval o).run P w = r at *
  cases r with
  | ok n w' =>
    cases n with
    | value u =>
      obtain ⟨σ', gh', hf, hv⟩ := this
      exact hk _ _ (rel_put h1 h2 hI (fun v a h => hf.keep _ _ (hk0 v a h)) hf.base (fun t => hf.keep _ _ (he t)) o.dst hd hv)
    | skip =>
      obtain ⟨rfl, σ', gh', hf⟩ := this
      exact hk _ _ (rel_put h1 h2 hI (fun v a h => hf.keep _ _ (hk0 v a h)) hf.base (fun t => hf.keep _ _ (he t)) o.dst hd trivial)
    | enter f args =>
      refine Calls.mono this fun e w'' hq => ?_
      obtain ⟨u, rfl, σ', gh', hf, hv⟩ := hq
      exact hk _ _ (rel_put h1 h2 hI (fun v a h => hf.keep _ _ (hk0 v a h)) hf.base (fun t => hf.keep _ _ (he t)) o.dst hd hv)
    | _ => exact this.elim
  | halt _ _ => exact this.elim

theorem WPL_op {dst : Option Tmp} {op : Op} {ty : TypeId} {pos : String} {after : Array Edge} {v : AV} {st' : List AO} (ho : OpS P op (evalE env) st v st') (hd : ∀ d, dst = some d → d < N.n)
    (h : WPL P N ops rest (updO env dst v) st' K) : WPL P N ops (⟨dst, op, ty, pos, after, none⟩ :: rest) env st K :=
  fun w0 σ0 I a w hr => wpList_plain rfl fun K' hK => op_wp (o := ⟨dst, op, ty, pos, after, none⟩) ho hd hr fun a w h' => hK a w (h w0 σ0 I a w h')

/-- an operation of which one of several things comes -/
def OpN (P : Program) (op : Op) (E : Operand → AV) (st : List AO) (V : AV → List AO → Prop) : Prop :=
  ∀ (o : Oper), o.op = op → ∀ w0 σ0 σ gh ρ w, Base w0 σ0 σ gh st w → (∀ x ∈ op.operands, RepA σ gh st (ρ x) (E x)) → ∃ v st', V v st' ∧ Out P w0 σ0 σ gh st v st' ((execOp ρ o).run P w)

theorem OpS.n {op : Op} {E : Operand → AV} {v : AV} {st' : List AO} {V : AV → List AO → Prop} (h : OpS P op E st v st') (hv : V v st') : OpN P op E st V :=
  fun o ho w0 σ0 σ gh ρ w hb hρ => ⟨v, st', hv, h o ho w0 σ0 σ gh ρ w hb hρ⟩

theorem op_wpN {o : Oper} {V : AV → List AO → Prop} (ho : OpN P o.op (evalE env) st V) (hd : ∀ d, o.dst = some d → d < N.n) {w0 σ0 I a w} (hr : Rel N w0 σ0 I env st a w) {K' : Act → World → Prop} {Q' : Exit → Act → World → Prop}
    (hk : ∀ v st' a w, V v st' → Rel N w0 σ0 I (updO env o.dst v) st' a w → K' a w) : o.wp P a w K' Q' := by
  obtain ⟨h1, h2, hI, σ, gh, hb, hk0, he⟩ := hr
  obtain ⟨v, st', hV, this⟩ := ho o rfl w0 σ0 σ gh a.eval w hb (fun x _ => eval_rep he x)
  unfold Oper.wp
  generalize (execOp a.eval o).run P w = r at *
  cases r with
  | ok n w' =>
    cases n with
    | value u =>
      obtain ⟨σ', gh', hf, hv⟩ := this
      exact hk v st' _ _ hV (rel_put h1 h2 hI (fun v a h => hf.keep _ _ (hk0 v a h)) hf.base (fun t => hf.keep _ _ (he t)) o.dst hd hv)
    | skip =>
      obtain ⟨rfl, σ', gh', hf⟩ := this
      exact hk .junk st' _ _ hV (rel_put h1 h2 hI (fun v a h => hf.keep _ _ (hk0 v a h)) hf.base (fun t => hf.keep _ _ (he t)) o.dst hd trivial)
    | enter f args =>
      refine Calls.mono this fun e w'' hq => ?_
      obtain ⟨u, rfl, σ', gh', hf, hv⟩ := hq
      exact hk v st' _ _ hV (rel_put h1 h2 hI (fun v a h => hf.keep _ _ (hk0 v a h)) hf.base (fun t => hf.keep _ _ (he t)) o.dst hd hv)
    | _ => exact this.elim
  | halt _ _ => exact this.elim

theorem WPL_opN {dst : Option Tmp} {op : Op} {ty : TypeId} {pos : String} {after : Array Edge} (hd : ∀ d, dst = some d → d < N.n)
    (h : OpN P op (evalE env) st fun v st' => WPL P N ops rest (updO env dst v) st' K) : WPL P N ops (⟨dst, op, ty, pos, after, none⟩ :: rest) env st K :=
  fun w0 σ0 I a w hr => wpList_plain rfl fun K' hK => op_wpN (o := ⟨dst, op, ty, pos, after, none⟩) h hd hr fun v st' a w hV h' => hK a w (hV w0 σ0 I a w h')

theorem yielded_of {w0 : World} {σ0 : Sig} {I : Ini} {a : Act} {w : World} (hr : Rel N w0 σ0 I env st a w) {j d : Nat} {oj : Oper} {b : Bool} (hj : ops[j]? = some oj) (hd : oj.dst = some d) (hdN : d < N.n) (hb : env d = .bool b) : yielded ops a.tmps j = some b := by
  obtain ⟨h1, h2, hI, σ, gh, hbase, hk0, he⟩ := hr
  have := he d
  rw [hb] at this
  have h3 := RepA_sc this
  have hlt : d < a.tmps.size := by omega
  have h4 : a.tmps[d]? = some (.bool b) := by
    rw [Array.getD_eq_getD_getElem?, Array.getElem?_eq_getElem hlt] at h3
    rw [Array.getElem?_eq_getElem hlt]
    simpa using h3
  simp [yielded, hj, hd, h4]

theorem WPL_guard {dst : Option Tmp} {op : Op} {ty : TypeId} {pos : String} {after : Array Edge} {j d : Nat} {want b : Bool} {oj : Oper} (hj : ops[j]? = some oj) (hdj : oj.dst = some d) (hdN : d < N.n) (hb : env d = .bool b)
    (h1 : b = want → ∃ v st', OpS P op (evalE env) st v st' ∧ (∀ d, dst = some d → d < N.n) ∧ WPL P N ops rest (updO env dst v) st' K)
    (h2 : b ≠ want → (∀ d, dst = some d → d < N.n) ∧ WPL P N ops rest (updO env dst (.tup [])) st K) : WPL P N ops (⟨dst, op, ty, pos, after, some (j, want)⟩ :: rest) env st K :=
  fun w0 σ0 I a w hr => by
    have hy := yielded_of hr hj hdj hdN hb
    refine wpList_step fun K' hK => ?_
    by_cases e : b = want
    · subst e
      obtain ⟨v, st', ho, hd, h⟩ := h1 rfl
      simp only [Region.wanted, hy, beq_self_eq_true, if_true]
      exact op_wp (o := ⟨dst, op, ty, pos, after, some (j, b)⟩) ho hd hr fun a w h' => hK a w (h w0 σ0 I a w h')
    · obtain ⟨hd, h⟩ := h2 e
      have hne : (some b == some want) = false := by simp [e]
      simp only [Region.wanted, hy, hne, Bool.false_eq_true, if_false]
      refine hK _ _ (h w0 σ0 I _ w ?_)
      obtain ⟨g1, g2, hI, σ, gh, hbase, hk0, he⟩ := hr
      exact rel_put g1 g2 hI hk0 hbase he dst hd (v := .tup []) ⟨[], rfl, by simp [RepVs]⟩

theorem yielded_none {w0 : World} {σ0 : Sig} {I : Ini} {a : Act} {w : World} (hr : Rel N w0 σ0 I env st a w) {j d : Nat} {oj : Oper} (hj : ops[j]? = some oj) (hd : oj.dst = some d) (hdN : d < N.n) (hb : env d = .tup []) : yielded ops a.tmps j = none := by
  obtain ⟨g1, g2, hI, σ, gh, hbase, hk0, he⟩ := hr
  have h4 := he d
  rw [hb] at h4
  obtain ⟨us, h5, h6⟩ := h4
  have hus : us = [] := List.eq_nil_of_length_eq_zero h6.1
  subst hus
  have hlt : d < a.tmps.size := by omega
  have h7 : a.tmps[d]? = some (.tuple #[]) := by
    rw [Array.getElem?_eq_getElem hlt]
    have : a.tmps.getD d undef = a.tmps[d] := by simp [Array.getD, hlt]
    rw [this] at h5
    rw [h5]
  simp [yielded, hj, hd, h7]

/-- a guard that was skipped itself -/
theorem WPL_guard0 {dst : Option Tmp} {op : Op} {ty : TypeId} {pos : String} {after : Array Edge} {j d : Nat} {want : Bool} {oj : Oper} (hj : ops[j]? = some oj) (hdj : oj.dst = some d) (hdN : d < N.n) (hb : env d = .tup [])
    (hd : ∀ d, dst = some d → d < N.n) (h : WPL P N ops rest (updO env dst (.tup [])) st K) : WPL P N ops (⟨dst, op, ty, pos, after, some (j, want)⟩ :: rest) env st K :=
  fun w0 σ0 I a w hr => by
    refine wpList_step fun K' hK => ?_
    obtain ⟨g1, g2, hI, σ, gh, hbase, hk0, he⟩ := hr
    have h4 := he d
    rw [hb] at h4
    obtain ⟨us, h5, h6⟩ := h4
    have hus : us = [] := List.eq_nil_of_length_eq_zero h6.1
    subst hus
    have hlt : d < a.tmps.size := by omega
    have h7 : a.tmps[d]? = some (.tuple #[]) := by
      rw [Array.getElem?_eq_getElem hlt]
      have : a.tmps.getD d undef = a.tmps[d] := by simp [Array.getD, hlt]
      rw [this] at h5
      rw [h5]
    have hy : yielded ops a.tmps j = none := by simp [yielded, hj, hdj, h7]
    have hne : ((none : Option Bool) == some want) = false := rfl
    simp only [Region.wanted, hy, hne, Bool.false_eq_true, if_false]
    exact hK _ _ (h w0 σ0 I _ w (rel_put g1 g2 hI hk0 hbase he dst hd (v := .tup []) ⟨[], rfl, by simp [RepVs]⟩))

end
end Go.Proofs.Nw.K
end
section
/- K11: contracts of functions; calls; what may be forgotten. -/
open Go Go.RowKit
set_option linter.unusedVariables false
set_option linter.unusedSimpArgs false
namespace Go.Proofs.Nw.K

def RepRes (σ : Sig) (u : Value) (res : List DV) : Prop :=
  match res with
  | [d] => RepV σ u d
  | ds => ∃ us : List Value, u = .tuple us.toArray ∧ RepVs σ us ds

/-- a call of f, with these data, hands back these, and leaves all that was there as it was -/
def Impl (P : Program) (f : FuncId) (args res : List DV) : Prop :=
  ∀ w σ vs, Sealed σ w → RepVs σ vs args → Calls P f vs.toArray w fun e w' => ∃ u σ', e = .returned u ∧ BelowD w.heap.size w w' ∧ Sealed σ' w' ∧
    (∀ b, b < w.heap.size → σ'.cell b = σ.cell b ∧ σ'.obj b = σ.obj b) ∧ RepRes σ' u res

def resAV : List DV → AV
  | [d] => .v d
  | ds => .tup ds

theorem resAV_rep {σ : Sig} {gh st} {u : Value} {res : List DV} (h : RepRes σ u res) : RepA σ gh st u (resAV res) := by
  unfold RepRes at h
  split at h
  · exact h
  · rename_i hne
    unfold resAV
    split
    · exact absurd rfl (hne _)
    · exact h

theorem Sealed.le_of {σ σ' : Sig} {w : World} (h : Sealed σ w) (hs : ∀ b, b < w.heap.size → σ'.cell b = σ.cell b ∧ σ'.obj b = σ.obj b) : σ.le σ' :=
  ⟨fun b o v hv => by rw [(hs b (World.block_lt_of_cell? w _ (h.cell b o v hv).1)).1]; exact hv,
   fun r o ho => by rw [(hs r (Array.getElem?_eq_some_iff.1 (h.obj r o ho)).1).2]; exact ho⟩

/-- behind a call -/
theorem Fut.call {w0 : World} {σ0 σ gh st w} (hb : Base w0 σ0 σ gh st w) {w' : World} {σ' : Sig} (hbl : BelowD w.heap.size w w') (hsl : Sealed σ' w') (hs : ∀ b, b < w.heap.size → σ'.cell b = σ.cell b ∧ σ'.obj b = σ.obj b) :
    Fut w0 σ0 σ gh st σ' gh st w' := by
  have hle := hb.sl.le_of hs
  have hg : w.grownBy w' none := ⟨hbl.os, hbl.tape, hbl.output, hbl.size, fun k hk _ => hbl.block k hk⟩
  have b' := hb.grown hg hbl.dr
  have keep : ∀ v a, RepA σ gh st v a → RepA σ' gh st v a := fun v a h => h.sig hle
  refine ⟨⟨b'.below, fun b h => ?_, hsl, b'.len, b'.sep, b'.lt, fun s o g h1 h2 => ?_⟩, keep⟩
  · have h1 := hb.ext b h
    have h2 := hs b (by have := hb.below.size; omega)
    exact ⟨h2.1.trans h1.1, h2.2.trans h1.2⟩
  · refine (b'.obj s o g h1 h2).sig hle (fun b hbk hu => ?_) keep
    have := hs b (hb.lt s g b h2 hbk)
    exact ⟨fun o => by rw [this.1]; exact hu.1 o, by rw [this.2]; exact hu.2⟩

/-- a function that can be called -/
def callable (P : Program) (f : FuncId) : Bool :=
  match P.funcs[f]? with
  | some fn => fn.body.isSome && !(fn.name == "runtime.NumGoroutine")
  | none => false

theorem callFunc_run {P : Program} {f : FuncId} (h : callable P f = true) (args : Array Value) (w : World) : (callFunc f args).run P w = .ok (.enter f args) w := by
  unfold callable at h
  split at h
  · rename_i fn hf
    simp only [Bool.and_eq_true, Bool.not_eq_true'] at h
    have h1 : fn.body.isNone = false := by cases hb : fn.body <;> simp_all
    have h2 : ¬ fn.name = "runtime.NumGoroutine" := by simpa using h.2
    have h3 : ¬ fn.body = none := by intro e; rw [e] at h1; cases h1
    simp [callFunc, hf, h2, h3]
  · cases h

def argsDV : List AV → Option (List DV)
  | [] => some []
  | .v d :: r => match argsDV r with | some ds => some (d :: ds) | none => none
  | _ => none

theorem argsDV_rep {σ : Sig} {gh st} : ∀ {avs : List AV} {ds : List DV} {vs : List Value}, argsDV avs = some ds → vs.length = avs.length → (∀ (i : Nat) v a, vs[i]? = some v → avs[i]? = some a → RepA σ gh st v a) → RepVs σ vs ds
  | [], ds, vs, h, hl, hr => by cases h; exact ⟨by simpa using hl, fun i v d _ hd => by simp at hd⟩
  | a :: avs, ds, vs, h, hl, hr => by
    unfold argsDV at h
    split at h
    · cases h; rename_i heq; cases heq
    · rename_i d r heq
      cases heq
      split at h <;> try cases h
      rename_i ds' hds
      cases vs with
      | nil => simp at hl
      | cons v vs =>
        have ih := argsDV_rep (vs := vs) hds (by simpa using hl) (fun i v a hv ha => hr (i + 1) v a (by simpa using hv) (by simpa using ha))
        refine ⟨by simp [ih.1], fun i u d' hu hd => ?_⟩
        cases i with
        | zero => simp at hu hd; subst hu hd; exact hr 0 _ _ rfl rfl
        | succ i => simp at hu hd; exact ih.2 i u d' hu hd
    · cases h

section
variable {P : Program} {N : Fm} {E : Operand → AV} {env : Env} {st : List AO} {Q : Post}

abbrev fnAV (f : FuncId) : AV := .sc (.func (.func f) #[] #[])

theorem op_call (x : Operand) (f : FuncId) (args : Array Operand) (ts : Array TypeId) (ds res : List DV) (hx : E x = fnAV f) (hc : callable P f = true) (ha : argsDV (args.toList.map E) = some ds) (hi : Impl P f ds res) :
    OpS P (.call { callee := .value x, args := args, argTypes := ts }) E st (resAV res) st := by
  intro o ho w0 σ0 σ gh ρ w hb hρ
  have hf := hρ x (by simp [Op.operands, Call.operands])
  rw [hx] at hf
  have hf := RepA_sc hf
  have hrun : (execOp ρ o).run P w = .ok (.enter f (args.map ρ)) w := by
    simp only [execOp, ho, resolve, hf, Deferred.ofValue, Sem.run_bind, Sem.run_pure, Result.andThen_ok, invoke]
    rw [show (#[] ++ Array.map ρ args ++ #[]) = Array.map ρ args by simp]
    exact callFunc_run hc (args.map ρ) w
  rw [hrun]
  have hvs : RepVs σ (args.toList.map ρ) ds := argsDV_rep ha (by simp) (fun i v a hv ha => by
    simp only [List.getElem?_map, Option.map_eq_some_iff] at hv ha
    obtain ⟨y, hy, rfl⟩ := hv
    obtain ⟨z, hz, rfl⟩ := ha
    rw [hy] at hz
    cases hz
    exact hρ y (by
      have hm : y ∈ args := by rw [← Array.mem_toList_iff]; exact List.mem_of_getElem? hy
      simp only [Op.operands, Call.operands]
      exact Array.mem_append.2 (.inr hm)))
  have := hi w σ _ hb.sl hvs
  have he : (args.toList.map ρ).toArray = args.map ρ := by apply Array.ext'; simp
  rw [he] at this
  refine Calls.mono this fun e w' hq => ?_
  obtain ⟨u, σ', rfl, h1, h2, h3, h4⟩ := hq
  exact ⟨u, rfl, σ', gh, Fut.call hb h1 h2 h3, resAV_rep h4⟩

/-! ### what a function hands back -/
/-- the results, read off the frame -/
def resOf (P : Program) (env : Env) (st : List AO) : List ResultVar → Option (List DV)
  | [] => some []
  | .tmp t :: r => match env t, resOf P env st r with
    | .v d, some ds => some (d :: ds)
    | _, _ => none
  | .cell a t :: r => match env a, ldT P t, resOf P env st r with
    | .ptr s off, some (n, true), some ds => match st[s]? with
      | some (.box bT cells) => match toDs ((cells.drop off).take n) with
        | some cs => if cs.length = n then some (.agg cs :: ds) else none
        | none => none
      | _ => none
    | .ptr s off, some (_, false), some ds => match st[s]? with
      | some (.box bT cells) => match cells[off]? with
        | some (.v (.one d)) => some (.one d :: ds)
        | _ => none
      | _ => none
    | _, _, _ => none

def resM (tm : Nat → Value) : ResultVar → Sem Value
  | .tmp t => pure (tm t)
  | .cell a t => do loadVar t (← asAddr (tm a))

theorem results_eq (fn : Func) (tmps : Array Value) : results fn tmps = (do let vs ← fn.results.mapM (resM fun t => tmps.getD t undef); pure (if h : vs.size = 1 then vs[0] else .tuple vs)) := by
  unfold results
  congr 1

theorem resOf_run {w0 : World} {σ0 σ gh w} (hb : Base w0 σ0 σ gh st w) {tm : Nat → Value} (he : ∀ t, RepA σ gh st (tm t) (env t)) : ∀ {rs : List ResultVar} {ds : List DV}, resOf P env st rs = some ds →
    ∃ us, (rs.mapM (resM tm)).run P w = .ok us w ∧ RepVs σ us ds
  | [], ds, h => by cases h; exact ⟨[], by simp, rfl, fun i v d h => by simp at h⟩
  | .tmp t :: r, ds, h => by
    unfold resOf at h
    split at h
    · rename_i d ds' h1 h2
      cases h
      obtain ⟨us, hr, hv⟩ := resOf_run hb he h2
      have hd := he t
      rw [h1] at hd
      refine ⟨tm t :: us, by simp [List.mapM_cons, resM, hr], by simp [hv.1], fun i v d' hv' hd' => ?_⟩
      cases i with
      | zero => simp at hv' hd'; subst hd' hv'; exact hd
      | succ i => simp at hv' hd'; exact hv.2 i v d' hv' hd'
    · cases h
  | .cell a t :: r, ds, h => by
    unfold resOf at h
    split at h
    · rename_i s off n ds' h1 hld h2
      split at h <;> try cases h
      rename_i cells hst
      split at h <;> try cases h
      rename_i cs hcs
      split at h <;> try cases h
      rename_i hn
      obtain ⟨us, hr, hv⟩ := resOf_run hb he h2
      have hd := he a
      rw [h1] at hd
      obtain ⟨b, vals, a2, a3, a4, a5, a6, a7, a8, a9⟩ := ptr_cells hb hd hst
      have hds := toDs_get hcs
      have hvl : ((vals.toList.drop off).take n).length = n := by
        have := hds.1
        rw [hn, List.length_take, List.length_drop] at this
        simp; omega
      have hr1 := run_loadVar_agg (P := P) hld (w := w) (b := b) (o := off) ((vals.toList.drop off).take n) hvl (fun j v hv => by
        rw [List.getElem?_take] at hv
        split at hv
        · rw [cell_of_row w b _ vals _ (0, 0) a5]; simpa using hv
        · cases hv)
      refine ⟨.agg ((vals.toList.drop off).take n).toArray :: us, by simp only [List.mapM_cons, resM, a3, asAddr, Sem.run_bind, Sem.run_pure, Result.andThen_ok, hr1, hr], by simp [hv.1], fun i v d' hv' hd' => ?_⟩
      cases i with
      | zero =>
        simp at hv' hd'
        subst hv' hd'
        refine ⟨_, rfl, by rw [hvl, hn], fun i v d hv hdd => ?_⟩
        have h10 := hds.2 i d hdd
        have hi : i < n := by have := (List.getElem?_eq_some_iff.1 hdd).1; omega
        rw [List.getElem?_take_of_lt hi] at h10 hv
        exact a7 (off + i) v (.d d) (by simpa using hv) (by simpa using h10)
      | succ i => simp at hv' hd'; exact hv.2 i v d' hv' hd'
    · rename_i s off n ds' h1 hld h2
      split at h <;> try cases h
      rename_i cells hst
      split at h <;> try cases h
      rename_i d hcs
      obtain ⟨us, hr, hv⟩ := resOf_run hb he h2
      have hd := he a
      rw [h1] at hd
      obtain ⟨b, vals, a2, a3, a4, a5, a6, a7, a8, a9⟩ := ptr_cells hb hd hst
      have hlt : off < vals.size := by rw [a6]; exact (List.getElem?_eq_some_iff.1 hcs).1
      have hc : w.cell? ⟨b, off, none⟩ = some vals[off] := by rw [cell_of_row w b off vals _ (0, 0) a5]; simp [hlt]
      refine ⟨vals[off] :: us, by simp only [List.mapM_cons, resM, a3, asAddr, Sem.run_bind, Sem.run_pure, Result.andThen_ok, run_loadVar_one hld hc, hr], by simp [hv.1], fun i v d' hv' hd' => ?_⟩
      cases i with
      | zero => simp at hv' hd'; subst hv' hd'; exact a7 off _ _ (by simp [hlt]) hcs
      | succ i => simp at hv' hd'; exact hv.2 i v d' hv' hd'
    · cases h

/-- where data arguments lie at the begin -/
def args0 (args : List DV) : Env := fun t => match args[t]? with | some d => .v d | none => .junk

def Returns (P : Program) (fn : Func) (res : List DV) : Post
  | .normal, env, st => resOf P env st fn.results.toList = some res
  | .ret, env, st => resOf P env st fn.results.toList = some res
  | _, _, _ => False

/-- a call with own things among its arguments: these data, and own things, in; results, and own things, out; all else is as it was -/
def Eff (P : Program) (f : FuncId) (args : List AV) (st : List AO) (res : List DV) (st' : List AO) : Prop :=
  ∀ w0 σ0 σ gh w (vs : List Value), Base w0 σ0 σ gh st w → vs.length = args.length → (∀ (i : Nat) v a, vs[i]? = some v → args[i]? = some a → RepA σ gh st v a) →
    Calls P f vs.toArray w fun e w' => ∃ u, e = .returned u ∧ ∃ σ' gh', Fut w0 σ0 σ gh st σ' gh' st' w' ∧ RepRes σ' u res

/-- a call with own things among its arguments -/
theorem op_calleff (x : Operand) (f : FuncId) (args : Array Operand) (ts : Array TypeId) (avs : List AV) (res : List DV) (st' : List AO) (hx : E x = fnAV f) (hc : callable P f = true) (ha : args.toList.map E = avs) (hi : Eff P f avs st res st') :
    OpS P (.call { callee := .value x, args := args, argTypes := ts }) E st (resAV res) st' := by
  intro o ho w0 σ0 σ gh ρ w hb hρ
  subst ha
  have hf := hρ x (by simp [Op.operands, Call.operands])
  rw [hx] at hf
  have hf := RepA_sc hf
  have hrun : (execOp ρ o).run P w = .ok (.enter f (args.map ρ)) w := by
    simp only [execOp, ho, resolve, hf, Deferred.ofValue, Sem.run_bind, Sem.run_pure, Result.andThen_ok, invoke]
    rw [show (#[] ++ Array.map ρ args ++ #[]) = Array.map ρ args by simp]
    exact callFunc_run hc (args.map ρ) w
  rw [hrun]
  have := hi w0 σ0 σ gh w (args.toList.map ρ) hb (by simp) (fun i v a hv ha => by
    simp only [List.getElem?_map, Option.map_eq_some_iff] at hv ha
    obtain ⟨y, hy, rfl⟩ := hv
    obtain ⟨z, hz, rfl⟩ := ha
    rw [hy] at hz
    cases hz
    exact hρ y (by
      have hm : y ∈ args := by rw [← Array.mem_toList_iff]; exact List.mem_of_getElem? hy
      simp only [Op.operands, Call.operands]
      exact Array.mem_append.2 (.inr hm)))
  have he : (args.toList.map ρ).toArray = args.map ρ := by apply Array.ext'; simp
  rw [he] at this
  refine Calls.mono this fun e w' hq => ?_
  obtain ⟨u, rfl, σ', gh', h1, h2⟩ := hq
  exact ⟨u, rfl, σ', gh', h1, resAV_rep h2⟩

/-- where the arguments lie at the begin -/
def argsE (args : List AV) : Env := fun t => match args[t]? with | some d => d | none => .junk

theorem eff_of_le {f : FuncId} {fn : Func} {c : Code} {args : List AV} {st st' : List AO} {res : List DV} {Le : List DV → List AO → Prop} (hLe : ∀ ds s, Le ds s → s = st' ∧ ∀ σ u, RepRes σ u ds → RepRes σ u res) (hf : P.funcs[f]? = some fn) (hb : fn.body = some c) (hn : args.length ≤ fn.ntmps)
    (h : WP P ⟨fn.ntmps, st.length⟩ c (argsE args) st fun e env s => ∃ ds, Le ds s ∧ Returns P fn ds e env s) : Eff P f args st res st' := by
  intro w0 σ0 σ gh w vs hbase0 hl hvs
  refine calls_of_wp hf hb (wp_mono (h w0 σ0 ⟨σ, gh, st⟩ _ w ⟨?_, rfl, hbase0.len, σ, gh, hbase0, fun _ _ h => h, fun t => ?_⟩) fun e a w' q => ?_)
  · simp; omega
  · unfold argsE
    split
    · rename_i d hd
      have hlt : t < vs.length := by rw [hl]; exact (List.getElem?_eq_some_iff.1 hd).1
      have : (vs.toArray ++ Array.replicate (fn.ntmps - vs.toArray.size) undef).getD t undef = vs[t] := by
        rw [Array.getD_eq_getD_getElem?, Array.getElem?_append_left (by simpa using hlt)]
        simp [hlt]
      rw [this]
      exact hvs t _ d (by simp [hlt]) hd
    · trivial
  · have fin : ∀ env s ds, Le ds s → Rel ⟨fn.ntmps, st.length⟩ w0 σ0 ⟨σ, gh, st⟩ env s a w' → resOf P env s fn.results.toList = some ds → a.defers = [] ∧ ∃ v, (results fn a.tmps).run P w' = .ok v w' ∧
        ∃ u, Ending.returned v = .returned u ∧ ∃ σ' gh', Fut w0 σ0 σ gh st σ' gh' st' w' ∧ RepRes σ' u res := by
      intro env s ds hle hr hres
      obtain ⟨h1, h2, hI, σ', gh', hbase, hk, he⟩ := hr
      obtain ⟨us, hrun, hv⟩ := resOf_run (tm := fun t => a.tmps.getD t undef) hbase he hres
      refine ⟨h2, ?_⟩
      have hrun' : (fn.results.mapM (resM fun t => a.tmps.getD t undef)).run P w' = .ok us.toArray w' := by
        rw [Array.mapM_eq_mapM_toList, Sem.run_map, hrun]; rfl
      obtain ⟨rfl, hle'⟩ := hLe ds s hle
      refine ⟨if h : us.toArray.size = 1 then us.toArray[0] else .tuple us.toArray, ?_, _, rfl, σ', gh', ⟨hbase, hk⟩, hle' _ _ ?_⟩
      · rw [results_eq]
        simp only [Sem.run_bind, hrun', Result.andThen_ok, Sem.run_pure]
      · unfold RepRes
        split
        · rename_i d
          have hl : us.length = 1 := hv.1
          obtain ⟨u0, rfl⟩ := List.length_eq_one_iff.1 hl
          simp
          exact hv.2 0 u0 d rfl rfl
        · rename_i hne
          have : us.toArray.size ≠ 1 := by
            intro e
            have hl : ds.length = 1 := by rw [← hv.1]; simpa using e
            obtain ⟨d, rfl⟩ := List.length_eq_one_iff.1 hl
            exact hne d rfl
          rw [dif_neg this]
          exact ⟨us, rfl, hv⟩
    cases e with
    | normal => obtain ⟨env, st, h1, ds, h3, h2⟩ := q; exact fin env st ds h3 h1 h2
    | ret => obtain ⟨env, st, h1, ds, h3, h2⟩ := q; exact fin env st ds h3 h1 h2
    | exit _ => obtain ⟨env, st, h1, ds, h3, h2⟩ := q; exact (h2 : False).elim
    | goto _ => obtain ⟨env, st, h1, ds, h3, h2⟩ := q; exact (h2 : False).elim
    | panic _ => exact (q : False).elim
    | outgrown => exact (q : False).elim

/-- of data alone: what own things it makes does not matter -/
theorem impl_of_le {f : FuncId} {fn : Func} {c : Code} {args res : List DV} {Le : List DV → Prop} (hLe : ∀ ds, Le ds → ∀ σ u, RepRes σ u ds → RepRes σ u res) (hf : P.funcs[f]? = some fn) (hb : fn.body = some c) (hn : args.length ≤ fn.ntmps)
    (h : WP P ⟨fn.ntmps, 0⟩ c (argsE (args.map AV.v)) [] fun e env s => ∃ ds, Le ds ∧ Returns P fn ds e env s) : Impl P f args res := by
  intro w σ vs hsl hvs
  have hE : ∀ w0 σ0 σ gh w (vs : List Value), Base w0 σ0 σ gh [] w → vs.length = (args.map AV.v).length → (∀ (i : Nat) v a, vs[i]? = some v → (args.map AV.v)[i]? = some a → RepA σ gh [] v a) →
      Calls P f vs.toArray w fun e w' => ∃ u, e = .returned u ∧ ∃ σ' gh' s, Base w0 σ0 σ' gh' s w' ∧ RepRes σ' u res := by
    intro w0 σ0 σ gh w vs hb0 hl hv
    -- by the effect's own way, whatever own things are there at the end
    refine calls_of_wp hf hb (wp_mono (h w0 σ0 ⟨σ, gh, []⟩ _ w ⟨?_, rfl, hb0.len, σ, gh, hb0, fun _ _ h => h, fun t => ?_⟩) fun e a w' q => ?_)
    · simp at hl ⊢; omega
    · unfold argsE
      split
      · rename_i d hd
        have hlt : t < vs.length := by rw [hl]; exact (List.getElem?_eq_some_iff.1 hd).1
        have : (vs.toArray ++ Array.replicate (fn.ntmps - vs.toArray.size) undef).getD t undef = vs[t] := by
          rw [Array.getD_eq_getD_getElem?, Array.getElem?_append_left (by simpa using hlt)]
          simp [hlt]
        rw [this]
        exact hv t _ d (by simp [hlt]) hd
      · trivial
    · have fin : ∀ env s ds, Le ds → Rel ⟨fn.ntmps, 0⟩ w0 σ0 ⟨σ, gh, []⟩ env s a w' → resOf P env s fn.results.toList = some ds → a.defers = [] ∧ ∃ v, (results fn a.tmps).run P w' = .ok v w' ∧
          ∃ u, Ending.returned v = .returned u ∧ ∃ σ' gh' s, Base w0 σ0 σ' gh' s w' ∧ RepRes σ' u res := by
        intro env s ds hle hr hres
        obtain ⟨h1, h2, hI, σ', gh', hbase, hk, he⟩ := hr
        obtain ⟨us, hrun, hv⟩ := resOf_run (tm := fun t => a.tmps.getD t undef) hbase he hres
        refine ⟨h2, ?_⟩
        have hrun' : (fn.results.mapM (resM fun t => a.tmps.getD t undef)).run P w' = .ok us.toArray w' := by
          rw [Array.mapM_eq_mapM_toList, Sem.run_map, hrun]; rfl
        refine ⟨if h : us.toArray.size = 1 then us.toArray[0] else .tuple us.toArray, ?_, _, rfl, σ', gh', s, hbase, hLe ds hle _ _ ?_⟩
        · rw [results_eq]
          simp only [Sem.run_bind, hrun', Result.andThen_ok, Sem.run_pure]
        · unfold RepRes
          split
          · rename_i d
            have hl : us.length = 1 := hv.1
            obtain ⟨u0, rfl⟩ := List.length_eq_one_iff.1 hl
            simp
            exact hv.2 0 u0 d rfl rfl
          · rename_i hne
            have : us.toArray.size ≠ 1 := by
              intro e
              have hl : ds.length = 1 := by rw [← hv.1]; simpa using e
              obtain ⟨d, rfl⟩ := List.length_eq_one_iff.1 hl
              exact hne d rfl
            rw [dif_neg this]
            exact ⟨us, rfl, hv⟩
      cases e with
      | normal => obtain ⟨env, st, h1, ds, h3, h2⟩ := q; exact fin env st ds h3 h1 h2
      | ret => obtain ⟨env, st, h1, ds, h3, h2⟩ := q; exact fin env st ds h3 h1 h2
      | exit _ => obtain ⟨env, st, h1, ds, h3, h2⟩ := q; exact (h2 : False).elim
      | goto _ => obtain ⟨env, st, h1, ds, h3, h2⟩ := q; exact (h2 : False).elim
      | panic _ => exact (q : False).elim
      | outgrown => exact (q : False).elim
  have := hE w σ σ [] w vs ⟨BelowD.refl _ _, fun _ _ => ⟨rfl, rfl⟩, hsl, rfl, fun s s' b _ h => by simp at h, fun s g b h => by simp at h, fun s o g h => by simp at h⟩ (by simpa using hvs.1) (fun i v a hv ha => by
    simp only [List.getElem?_map, Option.map_eq_some_iff] at ha
    obtain ⟨d, hd, rfl⟩ := ha
    exact hvs.2 i v d hv hd)
  refine this.mono fun e w' ⟨u, h1, σ', gh', s, h2, h3⟩ => ⟨u, σ', h1, h2.below, h2.sl, h2.ext, h3⟩

/-! ### a function that hands back a row of its own -/
/-- data in; a row that is the caller's own now, out -/
def Gives (P : Program) (f : FuncId) (args : List DV) (e : TypeId) (sz : Nat) (xs : List (List D)) : Prop :=
  ∀ w σ vs, Sealed σ w → RepVs σ vs args → Calls P f vs.toArray w fun en w' => ∃ u σ' g, en = .returned u ∧ Base w σ σ' [g] [.row 0 e sz xs] w' ∧ HRep g sz xs.length 0 xs.length u

theorem op_callgive (x : Operand) (f : FuncId) (args : Array Operand) (ts : Array TypeId) (ds : List DV) {e : TypeId} {sz : Nat} {xs : List (List D)} (hx : E x = fnAV f) (hc : callable P f = true) (ha : argsDV (args.toList.map E) = some ds) (hi : Gives P f ds e sz xs) :
    OpS P (.call { callee := .value x, args := args, argTypes := ts }) E st (.h st.length 0 0 xs.length) (st ++ [.row 0 e sz xs]) := by
  intro o ho w0 σ0 σ gh ρ w hb hρ
  have hf := hρ x (by simp [Op.operands, Call.operands])
  rw [hx] at hf
  have hf := RepA_sc hf
  have hrun : (execOp ρ o).run P w = .ok (.enter f (args.map ρ)) w := by
    simp only [execOp, ho, resolve, hf, Deferred.ofValue, Sem.run_bind, Sem.run_pure, Result.andThen_ok, invoke]
    rw [show (#[] ++ Array.map ρ args ++ #[]) = Array.map ρ args by simp]
    exact callFunc_run hc (args.map ρ) w
  rw [hrun]
  have hvs : RepVs σ (args.toList.map ρ) ds := argsDV_rep ha (by simp) (fun i v a hv ha => by
    simp only [List.getElem?_map, Option.map_eq_some_iff] at hv ha
    obtain ⟨y, hy, rfl⟩ := hv
    obtain ⟨z, hz, rfl⟩ := ha
    rw [hy] at hz
    cases hz
    exact hρ y (by
      have hm : y ∈ args := by rw [← Array.mem_toList_iff]; exact List.mem_of_getElem? hy
      simp only [Op.operands, Call.operands]
      exact Array.mem_append.2 (.inr hm)))
  have := hi w σ _ hb.sl hvs
  have he : (args.toList.map ρ).toArray = args.map ρ := by apply Array.ext'; simp
  rw [he] at this
  refine Calls.mono this fun en w' hq => ?_
  obtain ⟨u, σ', g, rfl, h1, h2⟩ := hq
  have hle := hb.sl.le_of (w := w) h1.ext
  have hf1 := Fut.call hb h1.below h1.sl h1.ext
  have hob := h1.obj 0 _ g rfl rfl
  obtain ⟨vals, ⟨a1, a2⟩, hsz, hval, huns, hone⟩ := hob
  -- the block is new to the caller
  have hnew : ∀ b, blkOf g = some b → w.heap.size ≤ b := fun b hbk => by
    rcases a2 with ⟨e1, _⟩ | ⟨blk, cap, cur, e1, e2, _⟩
    · rw [e1] at hbk; simp [blkOf] at hbk
    · rw [e1] at hbk; simp [blkOf] at hbk; omega
  have hlow : w0.heap.size ≤ w.heap.size := hb.below.size
  have hf2 : Fut w0 σ0 σ' gh st σ' (gh ++ [g]) (st ++ [.row 0 e sz xs]) w' := by
    have b' := hf1.base
    refine ⟨⟨b'.below, b'.ext, b'.sl, by simp [b'.len], ?_, ?_, ?_⟩, fun v a h => h.push _ _⟩
    · intro s s' b hne k1 k2
      have cls : ∀ s, (gh ++ [g])[s]?.bind blkOf = some b → (gh[s]?.bind blkOf = some b ∧ b < w.heap.size) ∨ (s = gh.length ∧ blkOf g = some b) := by
        intro s h
        rw [List.getElem?_append] at h
        split at h
        · refine .inl ⟨h, ?_⟩
          cases hs : gh[s]? with
          | none => simp [hs] at h
          | some g' => rw [hs] at h; exact hb.lt s g' b hs h
        · rename_i hs
          by_cases e : s = gh.length
          · subst e; simp at h; exact .inr ⟨rfl, h⟩
          · have : s - gh.length ≠ 0 := by omega
            simp [List.getElem?_cons, this] at h
      rcases cls s k1 with ⟨a, c⟩ | ⟨a, c⟩ <;> rcases cls s' k2 with ⟨a', c'⟩ | ⟨a', c'⟩
      · exact hb.sep s s' b hne a a'
      · have := hnew b c'; omega
      · have := hnew b c; omega
      · omega
    · intro s g' b k1 k2
      rw [List.getElem?_append] at k1
      split at k1
      · exact b'.lt s g' b k1 k2
      · rename_i hs
        by_cases e : s - gh.length = 0
        · simp [e] at k1; subst k1; exact h1.lt 0 g b rfl k2
        · simp [List.getElem?_cons, e] at k1
    · intro s o g' k1 k2
      rw [List.getElem?_append] at k1 k2
      rw [← hf1.base.len] at k1
      split at k1
      · rename_i hs
        rw [if_pos hs] at k2
        exact (b'.obj s o g' k1 k2).grown (row := none) ⟨rfl, rfl, rfl, Nat.le_refl _, fun _ _ _ => rfl⟩ (fun _ _ h => by cases h) (fun v a h => h.push _ _)
      · rename_i hs
        rw [if_neg hs] at k2
        by_cases e : s - gh.length = 0
        · simp [e] at k1 k2
          subst k1 k2
          refine ⟨vals, ⟨a1, ?_⟩, hsz, hval, huns, hone⟩
          rcases a2 with a2 | ⟨blk, cap, cur, e1, e2, e3⟩
          · exact .inl a2
          · exact .inr ⟨blk, cap, cur, e1, by omega, e3⟩
        · simp [List.getElem?_cons, e] at k1
  refine ⟨u, rfl, σ', gh ++ [g], hf1.trans hf2, g, .row 0 e sz xs, ?_, by simp, fun k' e' sz' xs' heq => ?_⟩
  · rw [← hb.len]; simp
  · cases heq; exact ⟨Nat.le_refl _, fun _ => h2⟩

/-- what such a function comes to -/
def RetsG (t : Nat) (e : TypeId) (sz : Nat) (xs : List (List D)) : Post
  | .normal, env, st => ∃ k, env t = .h 0 k 0 xs.length ∧ st = [.row k e sz xs]
  | .ret, env, st => ∃ k, env t = .h 0 k 0 xs.length ∧ st = [.row k e sz xs]
  | _, _, _ => False

theorem gives_of {f : FuncId} {fn : Func} {n : Nat} {c : Code} {args : List DV} {t : Nat} {e : TypeId} {sz : Nat} {xs : List (List D)} (hf : P.funcs[f]? = some fn) (hN : fn.ntmps = n) (hb : fn.body = some c) (hr : fn.results = #[.tmp t]) (hn : Nat.ble args.length n = true)
    (h : WP P ⟨n, 0⟩ c (argsE (args.map AV.v)) [] (RetsG t e sz xs)) : Gives P f args e sz xs := by
  subst hN
  have hn := Nat.le_of_ble_eq_true hn
  intro w σ vs hsl hvs
  have hb0 : Base w σ σ [] [] w := ⟨BelowD.refl _ _, fun _ _ => ⟨rfl, rfl⟩, hsl, rfl, fun s s' b _ h => by simp at h, fun s g b h => by simp at h, fun s o g h => by simp at h⟩
  refine calls_of_wp hf hb (wp_mono (h w σ ⟨σ, [], []⟩ _ w ⟨?_, rfl, hb0.len, σ, [], hb0, fun _ _ h => h, fun t => ?_⟩) fun en a w' q => ?_)
  · have := hvs.1; simp; omega
  · unfold argsE
    split
    · rename_i d hd
      simp only [List.getElem?_map, Option.map_eq_some_iff] at hd
      obtain ⟨d', hd, rfl⟩ := hd
      have hlt : t < vs.length := by rw [hvs.1]; exact (List.getElem?_eq_some_iff.1 hd).1
      have : (vs.toArray ++ Array.replicate (fn.ntmps - vs.toArray.size) undef).getD t undef = vs[t] := by
        rw [Array.getD_eq_getD_getElem?, Array.getElem?_append_left (by simpa using hlt)]
        simp [hlt]
      rw [this]
      exact hvs.2 t _ d' (by simp [hlt]) hd
    · trivial
  · have fin : ∀ env s, (∃ k, env t = .h 0 k 0 xs.length ∧ s = [.row k e sz xs]) → Rel ⟨fn.ntmps, 0⟩ w σ ⟨σ, [], []⟩ env s a w' → a.defers = [] ∧ ∃ v, (results fn a.tmps).run P w' = .ok v w' ∧
        ∃ u σ' g, Ending.returned v = .returned u ∧ Base w σ σ' [g] [.row 0 e sz xs] w' ∧ HRep g sz xs.length 0 xs.length u := by
      intro env s ⟨k, e1, e2⟩ hrel
      obtain ⟨h1, h2, hI, σ', gh', hbase, hk, he⟩ := hrel
      subst e2
      have hv := he t
      rw [e1] at hv
      obtain ⟨g, o, g1, g2, g3⟩ := hv
      cases g2
      obtain ⟨_, g4⟩ := g3 _ _ _ _ rfl
      have g4 := g4 rfl
      have hgl : gh' = [g] := by
        have hl := hbase.len
        match gh', hl, g1 with
        | [x], _, g1 => simp at g1; rw [g1]
      subst hgl
      refine ⟨h2, _, ?_, _, σ', g, rfl, ⟨hbase.below, hbase.ext, hbase.sl, rfl, hbase.sep, hbase.lt, fun s o g' k1 k2 => ?_⟩, g4⟩
      · rw [results_eq, hr]
        simp [resM, Sem.run_bind, Sem.run_pure]
      · match s, k1, k2 with
        | 0, k1, k2 =>
          cases k1; cases k2
          exact hbase.obj 0 _ g rfl rfl
        | s + 1, k1, k2 => simp at k1
    cases en with
    | normal => obtain ⟨env, st, h1, h2⟩ := q; exact fin env st h2 h1
    | ret => obtain ⟨env, st, h1, h2⟩ := q; exact fin env st h2 h1
    | exit _ => obtain ⟨env, st, h1, h2⟩ := q; exact (h2 : False).elim
    | goto _ => obtain ⟨env, st, h1, h2⟩ := q; exact (h2 : False).elim
    | panic _ => exact (q : False).elim
    | outgrown => exact (q : False).elim

end
end Go.Proofs.Nw.K
end
section
/- K12: forgetting slots and own things; views of one thing as another. -/
open Go Go.RowKit
set_option linter.unusedVariables false
set_option linter.unusedSimpArgs false
namespace Go.Proofs.Nw.K

def ofL : List (Nat × AV) → Env
  | [] => fun _ => .junk
  | (t, v) :: r => upd (ofL r) t v

def belowN (n : Nat) : AV → Bool
  | .ptr s _ => decide (s < n)
  | .h s _ _ _ => decide (s < n)
  | .ep s _ _ _ => decide (s < n)
  | .omap s => decide (s < n)
  | .clo _ caps => caps.all fun s => decide (s < n)
  | .pkg cs => cs.all fun c => match c with | .o s => decide (s < n) | .d _ => true
  | .bs s _ => decide (s < n)
  | _ => true

def objBelow (n : Nat) : AO → Bool
  | .box bT cells => cells.all (belowN n)
  | .mp es => es.all fun p => belowN n p.2
  | _ => true

def agree (env : Env) (n : Nat) : List (Nat × AV) → Prop
  | [] => True
  | (t, v) :: r => env t = v ∧ belowN n v = true ∧ agree env n r

theorem agree_get {env : Env} {n : Nat} : ∀ {l : List (Nat × AV)}, agree env n l → ∀ t, ofL l t = .junk ∨ (ofL l t = env t ∧ belowN n (env t) = true)
  | [], _, t => .inl rfl
  | (t', v) :: r, h, t => by
    obtain ⟨h1, h2, h3⟩ := h
    simp only [ofL, upd]
    split
    · rename_i e; subst e; exact .inr ⟨h1.symm, by rw [h1]; exact h2⟩
    · exact agree_get h3 t

universe u
theorem get_take {α : Type u} {l : List α} {s n : Nat} {a : α} (h : l[s]? = some a) (hs : s < n) : (l.take n)[s]? = some a := by
  rw [List.getElem?_take_of_lt hs]; exact h

theorem RepA.take {σ : Sig} {gh st} {v : Value} {a : AV} (h : RepA σ gh st v a) {n : Nat} (hn : belowN n a = true) : RepA σ (gh.take n) (st.take n) v a := by
  cases a with
  | v x => exact h
  | ptr s off => obtain ⟨b, h1, h2⟩ := h; exact ⟨b, get_take h1 (by simpa [belowN] using hn), h2⟩
  | h s k lo m => obtain ⟨g', o', h1, h2, h3⟩ := h; exact ⟨g', o', get_take h1 (by simpa [belowN] using hn), get_take h2 (by simpa [belowN] using hn), h3⟩
  | ep s k i off => obtain ⟨g', o', h1, h2, h3⟩ := h; exact ⟨g', o', get_take h1 (by simpa [belowN] using hn), get_take h2 (by simpa [belowN] using hn), h3⟩
  | omap s => exact ⟨get_take h.1 (by simpa [belowN] using hn), h.2⟩
  | tup vs => exact h
  | clo f caps =>
    obtain ⟨us, h1, h2, h3⟩ := h
    refine ⟨us, h1, h2, fun i u s hu hs => ⟨get_take (h3 i u s hu hs).1 ?_, (h3 i u s hu hs).2⟩⟩
    simp only [belowN, List.all_eq_true, decide_eq_true_eq] at hn
    exact hn s (List.mem_of_getElem? hs)
  | bs s m => obtain ⟨b, c, h1, h2⟩ := h; exact ⟨b, c, get_take h1 (by simpa [belowN] using hn), h2⟩
  | pkg cs =>
    obtain ⟨us, h1, h2, h3⟩ := h
    simp only [belowN, List.all_eq_true] at hn
    exact ⟨us, h1, h2, fun i u c hu hc => (h3 i u c hu hc).map (fun s e e2 _ => get_take e2 (by have := hn c (List.mem_of_getElem? hc); subst e; simpa using this)) ⟨fun _ _ _ h => h, fun _ _ h => h⟩⟩
  | junk => trivial

/-- what an abstract value speaks of is there -/
theorem belowN_of {σ : Sig} {gh st} {v : Value} {a : AV} (h : RepA σ gh st v a) {n : Nat} (hn : gh.length ≤ n) : belowN n a = true := by
  have key : ∀ {s : Nat} {g : Value}, gh[s]? = some g → s < n := fun h => by have := (List.getElem?_eq_some_iff.1 h).1; omega
  cases a with
  | ptr s off => obtain ⟨b, h1, _⟩ := h; simpa [belowN] using key h1
  | h s k lo m => obtain ⟨g, o, h1, _⟩ := h; simpa [belowN] using key h1
  | ep s k i off => obtain ⟨g, o, h1, _⟩ := h; simpa [belowN] using key h1
  | omap s => simpa [belowN] using key h.1
  | clo f caps =>
    obtain ⟨us, h1, h2, h3⟩ := h
    simp only [belowN, List.all_eq_true, decide_eq_true_eq]
    intro s hs
    obtain ⟨i, hi, rfl⟩ := List.getElem_of_mem hs
    exact key (h3 i us[i] caps[i] (by simp [h2, hi]) (by simp [hi])).1
  | bs s m => obtain ⟨b, c, h1, _⟩ := h; simpa [belowN] using key h1
  | pkg cs =>
    obtain ⟨us, h1, h2, h3⟩ := h
    simp only [belowN, List.all_eq_true]
    intro c hc
    obtain ⟨i, hi, rfl⟩ := List.getElem_of_mem hc
    have h4 := h3 i (us[i]'(by omega)) cs[i] (by simp [h2, hi]) (by simp [hi])
    generalize cs[i] = c at h4
    cases c with
    | o s => simpa using key h4.1
    | d x => rfl
  | _ => rfl

theorem take_get {α : Type u} {l : List α} {s n : Nat} {a : α} (h : (l.take n)[s]? = some a) : l[s]? = some a ∧ s < n := by
  rw [List.getElem?_take] at h
  split at h
  · exact ⟨h, ‹_›⟩
  · cases h

theorem Base.take {w0 : World} {σ0 σ gh st w} (hb : Base w0 σ0 σ gh st w) (n : Nat) (ho : ((st.take n).all (objBelow n)) = true) : Base w0 σ0 σ (gh.take n) (st.take n) w where
  below := hb.below
  ext := hb.ext
  sl := hb.sl
  len := by simp [hb.len]
  sep := fun s s' b hne h1 h2 => by
    cases e1 : (gh.take n)[s]? with
    | none => simp [e1] at h1
    | some x =>
      cases e2 : (gh.take n)[s']? with
      | none => simp [e2] at h2
      | some y =>
        rw [e1] at h1; rw [e2] at h2
        exact hb.sep s s' b hne (by rw [(take_get e1).1]; exact h1) (by rw [(take_get e2).1]; exact h2)
  lt := fun s g b h1 h2 => hb.lt s g b (take_get h1).1 h2
  obj := fun s o g h1 h2 => by
    have h3 := hb.obj s o g (take_get h1).1 (take_get h2).1
    have hob := List.all_eq_true.1 ho o (List.mem_of_getElem? h1)
    cases o with
    | box bT cells =>
      obtain ⟨b, vals, a1, a2, a3, a4, a5, a6, a7⟩ := h3
      refine ⟨b, vals, a1, a2, a3, a4, fun i v c hv hc => (a5 i v c hv hc).take ?_, a6, a7⟩
      simp only [objBelow, List.all_eq_true] at hob
      exact hob c (List.mem_of_getElem? hc)
    | row _ _ _ _ => exact h3
    | mp es =>
      obtain ⟨r, entries, clock, a1, a2, a3, a4, a5, a6⟩ := h3
      simp only [objBelow, List.all_eq_true] at hob
      exact ⟨r, entries, clock, a1, a2, a3, a4, fun i k d hk => let ⟨me, c1, c2, c3⟩ := a5 i k d hk; ⟨me, c1, c2, c3.take (hob (k, d) (List.mem_of_getElem? hk))⟩, a6⟩
    | brow _ _ => exact h3
    | gone => trivial

theorem Sub.ofL {N : Fm} {env : Env} {st : List AO} (l : List (Nat × AV)) (ob : List AO) (h0 : N.o ≤ ob.length) (h1 : agree env ob.length l) (h2 : st.take ob.length = ob) (h3 : (ob.all (objBelow ob.length)) = true) : Sub N env st (ofL l) ob := by
  intro w0 σ0 I a w ⟨hs, hd, hI, σ, gh, hb, hk, he⟩
  have hb' := hb.take ob.length (by rw [h2]; exact h3)
  rw [h2] at hb'
  refine ⟨hs, hd, hI, σ, gh.take ob.length, hb', fun v a ha => ?_, fun t => ?_⟩
  · have hle : I.gh.length ≤ ob.length := by omega
    have := (hk v a ha).take (belowN_of ha hle)
    rwa [h2] at this
  rcases agree_get h1 t with h | ⟨h, h'⟩
  · rw [h]; trivial
  · rw [h]
    have := (he t).take h'
    rwa [h2] at this

theorem Sub.slot {N : Fm} {env : Env} {st st' : List AO} (t : Nat) (v : AV) (h : ∀ w0 σ0 σ gh w u, Base w0 σ0 σ gh st w → RepA σ gh st u (env t) → ∃ σ' gh', Fut w0 σ0 σ gh st σ' gh' st' w ∧ RepA σ' gh' st' u v) :
    Sub N env st (upd env t v) st' := by
  intro w0 σ0 I a w ⟨hs, hd, hI, σ, gh, hb, hk, he⟩
  obtain ⟨σ', gh', hf, hv⟩ := h w0 σ0 σ gh w _ hb (he t)
  refine ⟨hs, hd, hI, σ', gh', hf.base, fun v a ha => hf.keep _ _ (hk v a ha), fun t' => ?_⟩
  simp only [upd]
  split
  · rename_i e; subst e; exact hv
  · exact hf.keep _ _ (he t')

/-- nothing, seen as a row of one's own -/
theorem Sub.nilsRow {N : Fm} {env : Env} {st : List AO} (t : Nat) (e sz : Nat) (h : env t = .nils) : Sub N env st (upd env t (.h st.length 0 0 0)) (st ++ [.row 0 e sz []]) :=
  Sub.slot t _ fun w0 σ0 σ gh w u hb hu => by
    rw [h] at hu
    have hu := nils_val hu
    have hf := hb.push (w' := w) ⟨rfl, rfl, rfl, Nat.le_refl _, fun _ _ _ => rfl⟩ (.slice none 0 0) (.row 0 e sz []) (fun b h => by simp [blkOf] at h)
      ⟨[], World.ownsRow_nil w _ e sz, fun i x h => by simp at h, fun i j x d h => by simp at h, fun b h => by simp [blkOf] at h, by simp⟩
    refine ⟨σ, _, hf, .slice none 0 0, _, by rw [← hb.len]; simp, by simp; rfl, fun k' e' sz' xs' heq => ?_⟩
    cases heq
    exact ⟨Nat.le_refl _, fun _ => ⟨by simp, .inl ⟨rfl, rfl, hu⟩⟩⟩

theorem Sub.nilsList {N : Fm} {env : Env} {st : List AO} (t : Nat) (sz : Nat) (h : env t = .nils) : Sub N env st (upd env t (.list sz [])) st :=
  Sub.slot t _ fun w0 σ0 σ gh w u hb hu => by
    rw [h] at hu
    have hu := nils_val hu
    subst hu
    exact ⟨σ, gh, .refl hb, Rep.nil (by simp [maxLen])⟩

/-- a row of one's own is given out -/
theorem Sub.shut {N : Fm} {env : Env} {st : List AO} (t : Nat) (s k n e sz : Nat) (xs : List (List D)) (h : env t = .h s k 0 n) (hst : st[s]? = some (.row k e sz xs)) (hn : n = xs.length) : Sub N env st (upd env t (.list sz xs)) (st.set s .gone) :=
  Sub.slot t _ fun w0 σ0 σ gh w u hb hu => by
    rw [h] at hu
    obtain ⟨g, hg, hR, A, c, hv⟩ := h_val hb hst hu
    obtain ⟨σ', hf, hrep⟩ := seal_row hb hst hg
    refine ⟨σ', gh, hf, ?_⟩
    obtain ⟨h0, ⟨a1, a2, a3⟩ | ⟨b, m, c2, a1, a2, ⟨a3, a4, _⟩ | a3⟩⟩ := hR
    · rw [a3]; exact hrep
    · omega
    · subst hn
      obtain ⟨A', c', hgv, hc'⟩ := row_val hb hst hg
      rw [a1] at hgv
      injection hgv with e1 e2 e3
      subst e2
      have : u = g := by rw [a3, a1]; simp
      rw [this]; exact hrep

end Go.Proofs.Nw.K
end
section
/- K13: regions whose order is open: one run in the order of the text serves every order, where no operation turns an own thing. -/
open Go Go.RowKit
set_option linter.unusedVariables false
set_option linter.unusedSimpArgs false
namespace Go.Proofs.Nw.K

theorem OpS.congr {P : Program} {op : Op} {E E' : Operand → AV} {st v st'} (h : OpS P op E st v st') (he : ∀ x ∈ op.operands, E' x = E x) : OpS P op E' st v st' :=
  fun o ho w0 σ0 σ gh ρ w hb hr => h o ho w0 σ0 σ gh ρ w hb fun x hx => by rw [← he x hx]; exact hr x hx

section
variable {P : Program} {N : Fm} {ops : Array Oper} {st : List AO} {md : Region.Mode}

/-- is the guard met, as the slots say? -/
def guardE (ops : Array Oper) (o : Oper) (env : Env) (b : Bool) : Prop :=
  match o.guard with
  | none => b = true
  | some (j, want) => ∃ (oj : Oper) (d : Nat) (c : Bool), ops[j]? = some oj ∧ oj.dst = some d ∧ d < N.n ∧ (env d = .bool c ∧ b = decide (c = want) ∨ env d = .tup [] ∧ b = false)

def EYields (P : Program) (N : Fm) (ops : Array Oper) (st : List AO) (o : Oper) (v : AV) (env : Env) : Prop :=
  (∀ d, o.dst = some d → d < N.n) ∧ ((guardE (N := N) ops o env true ∧ OpS P o.op (evalE env) st v st) ∨ (guardE (N := N) ops o env false ∧ v = .tup []))

def eOp (P : Program) (N : Fm) (ops : Array Oper) (st : List AO) (i : Nat) (K : Env → Prop) (env : Env) : Prop :=
  match ops[i]? with
  | none => K env
  | some o => ∃ v, EYields P N ops st o v env ∧ K (updO env o.dst v)

theorem eOp_mono {i : Nat} {env : Env} {K K' : Env → Prop} (h : ∀ e, K e → K' e) (hh : eOp P N ops st i K env) : eOp P N ops st i K' env := by
  unfold eOp at *
  split
  · rename_i h0; simp only [h0] at hh; exact h _ hh
  · rename_i o h0; simp only [h0] at hh; obtain ⟨v, h1, h2⟩ := hh; exact ⟨v, h1, h _ h2⟩

def wpAnyE (P : Program) (N : Fm) (md : Region.Mode) (ops : Array Oper) (st : List AO) (K : Env → Prop) : Nat → Array Bool → Env → Prop
  | 0, listed, env => Region.ready md ops listed = [] ∧ K env
  | fuel + 1, listed, env => (Region.ready md ops listed = [] → K env) ∧ ∀ i ∈ Region.ready md ops listed, eOp P N ops st i (wpAnyE P N md ops st K fuel (listed.setIfInBounds i true)) env

theorem guard_wanted {o : Oper} {env : Env} {b : Bool} (h : guardE (N := N) ops o env b) {w0 : World} {σ0 : Sig} {I : Ini} {a : Act} {w : World} (hr : Rel N w0 σ0 I env st a w) : Region.wanted o (yielded ops a.tmps) = b := by
  unfold guardE at h
  unfold Region.wanted
  cases hg : o.guard with
  | none => simp only [hg] at h; simp [h]
  | some g =>
    obtain ⟨j, want⟩ := g
    simp only [hg] at h
    obtain ⟨oj, d, c, h1, h2, h3, ⟨h4, h5⟩ | ⟨h4, rfl⟩⟩ := h
    rotate_left
    · have hy := yielded_none hr h1 h2 h3 h4
      simp only [hy]
      rfl
    have hy := yielded_of hr h1 h2 h3 h4
    simp only [hy]
    subst h5
    by_cases e : c = want <;> simp [e]

theorem wpOp_of_eOp {i : Nat} {K : Env → Prop} {K' : Act → World → Prop} {Q' : Exit → Act → World → Prop} {w0 : World} {σ0 : Sig} {I : Ini} {env : Env} {a : Act} {w : World} (hr : Rel N w0 σ0 I env st a w)
    (h : ∀ env a w, Rel N w0 σ0 I env st a w → K env → K' a w) (hh : eOp P N ops st i K env) : wpOp P ops Q' i K' a w := by
  unfold eOp at hh
  unfold wpOp
  split
  · rename_i h0; simp only [h0] at hh; exact h _ _ _ hr hh
  · rename_i o h0
    simp only [h0] at hh
    obtain ⟨v, ⟨hd, hy⟩, hK⟩ := hh
    rcases hy with ⟨hg, ho⟩ | ⟨hg, rfl⟩
    · rw [guard_wanted hg hr]
      simp only [if_true]
      exact .inl (op_wp ho hd hr fun a w hr' => h _ _ _ hr' hK)
    · rw [guard_wanted hg hr]
      simp only [Bool.false_eq_true, if_false]
      obtain ⟨g1, g2, hI, σ, gh, hbase, hk0, he⟩ := hr
      exact h _ _ _ (rel_put g1 g2 hI hk0 hbase he o.dst hd (v := .tup []) ⟨[], rfl, by simp [RepVs]⟩) hK

theorem wpAny_of_E {K : Env → Prop} {Q' : Exit → Act → World → Prop} {w0 : World} {σ0 : Sig} {I : Ini} (hQ : ∀ env a w, Rel N w0 σ0 I env st a w → K env → Q' .normal a w) : ∀ (fuel : Nat) (listed : Array Bool) (env : Env) (a : Act) (w : World),
    Rel N w0 σ0 I env st a w → wpAnyE P N md ops st K fuel listed env → wpAny P md ops Q' fuel listed a w
  | 0, _, _, _, _, hr, h => ⟨h.1, hQ _ _ _ hr h.2⟩
  | fuel + 1, _, _, _, _, hr, h => ⟨fun h0 => hQ _ _ _ hr (h.1 h0), fun i hi => wpOp_of_eOp hr (fun env a w hr' => wpAny_of_E hQ fuel _ env a w hr') (h.2 i hi)⟩

theorem updO_other {env : Env} {dst : Option Tmp} {v : AV} {t : Nat} (h : ∀ d, dst = some d → d ≠ t) : updO env dst v t = env t := by
  cases dst with
  | none => rfl
  | some d => exact upd_other _ _ (fun e => h d rfl e.symm)

theorem updO_comm (env : Env) {x y : Option Tmp} (v u : AV) (h : ∀ d, x = some d → y ≠ some d) : updO (updO env x v) y u = updO (updO env y u) x v := by
  cases x with
  | none => rfl
  | some d =>
    cases y with
    | none => rfl
    | some e =>
      have hne : d ≠ e := fun he => h d rfl (he ▸ rfl)
      funext t
      simp only [updO, upd]
      by_cases h1 : t = e
      · subst h1
        have h2 : ¬ t = d := fun e' => hne e'.symm
        simp [h2]
      · simp [h1]

theorem EYields.keep {o : Oper} {v : AV} {env : Env} (hy : EYields P N ops st o v env) {dst : Option Tmp} {u : AV} (h : ∀ d, dst = some d → d ∉ o.looksAt ops) : EYields P N ops st o v (updO env dst u) := by
  have hE : ∀ x ∈ o.op.operands, evalE (updO env dst u) x = evalE env x := fun x hx => by
    cases x with
    | tmp t =>
      refine updO_other fun d hd e => h d hd ?_
      subst e
      exact List.mem_append_left _ (List.mem_filterMap.2 ⟨.tmp d, by simpa using hx, rfl⟩)
    | _ => rfl
  have hG : ∀ b, guardE (N := N) ops o env b → guardE (N := N) ops o (updO env dst u) b := fun b hg => by
    unfold guardE at *
    cases hgd : o.guard with
    | none => simp only [hgd] at hg ⊢; exact hg
    | some g =>
      obtain ⟨j, want⟩ := g
      simp only [hgd] at hg ⊢
      obtain ⟨oj, d, c, h1, h2, h3, h4⟩ := hg
      refine ⟨oj, d, c, h1, h2, h3, ?_⟩
      rw [updO_other]
      · exact h4
      · intro d' hd' e
        subst e
        exact h d' hd' (by simp [Oper.looksAt, hgd, h1, h2])
  refine ⟨hy.1, ?_⟩
  rcases hy.2 with ⟨hg, ho⟩ | ⟨hg, e⟩
  · exact .inl ⟨hG _ hg, ho.congr hE⟩
  · exact .inr ⟨hG _ hg, e⟩

theorem EYields.drop {o : Oper} {v : AV} {env : Env} {dst : Option Tmp} {u : AV} (hy : EYields P N ops st o v (updO env dst u)) (h : ∀ d, dst = some d → d ∉ o.looksAt ops) : EYields P N ops st o v env := by
  have hE : ∀ x ∈ o.op.operands, evalE env x = evalE (updO env dst u) x := fun x hx => by
    cases x with
    | tmp t =>
      refine (updO_other fun d hd e => h d hd ?_).symm
      subst e
      exact List.mem_append_left _ (List.mem_filterMap.2 ⟨.tmp d, by simpa using hx, rfl⟩)
    | _ => rfl
  have hG : ∀ b, guardE (N := N) ops o (updO env dst u) b → guardE (N := N) ops o env b := fun b hg => by
    unfold guardE at *
    cases hgd : o.guard with
    | none => simp only [hgd] at hg ⊢; exact hg
    | some g =>
      obtain ⟨j, want⟩ := g
      simp only [hgd] at hg ⊢
      obtain ⟨oj, d, c, h1, h2, h3, h4⟩ := hg
      refine ⟨oj, d, c, h1, h2, h3, ?_⟩
      rw [updO_other] at h4
      · exact h4
      · intro d' hd' e
        subst e
        exact h d' hd' (by simp [Oper.looksAt, hgd, h1, h2])
  refine ⟨hy.1, ?_⟩
  rcases hy.2 with ⟨hg, ho⟩ | ⟨hg, e⟩
  · exact .inl ⟨hG _ hg, ho.congr hE⟩
  · exact .inr ⟨hG _ hg, e⟩

theorem eOp_put {j : Nat} {oi oj : Oper} {v : AV} (hj : ops[j]? = some oj) (hap : oi.apart ops oj = true) {K : Env → Prop} {env : Env}
    (hy : EYields P N ops st oi v env) (h : eOp P N ops st j K (updO env oi.dst v)) : eOp P N ops st j (fun env' => EYields P N ops st oi v env' ∧ K (updO env' oi.dst v)) env := by
  obtain ⟨h1, h2, h3⟩ := Oper.apart_spec hap
  unfold eOp at *
  simp only [hj] at *
  obtain ⟨u, hu, hK⟩ := h
  exact ⟨u, hu.drop h1, hy.keep h3, by rw [← updO_comm env v u h2]; exact hK⟩

theorem EYields.eOp {i : Nat} {o : Oper} {v : AV} {env : Env} (hi : ops[i]? = some o) (hy : EYields P N ops st o v env) {K : Env → Prop} (h : K (updO env o.dst v)) : eOp P N ops st i K env := by
  unfold Go.Proofs.Nw.K.eOp
  simp only [hi]
  exact ⟨v, hy, h⟩

theorem wpAnyE_first {K : Env → Prop} {i : Nat} {oi : Oper} {v : AV} (hi : ops[i]? = some oi) :
    ∀ (fuel : Nat) (listed : Array Bool) (env : Env),
      (∀ j oj, ops[j]? = some oj → j ≠ i → listed.getD j true = false → (∀ e ∈ oj.after, Region.binds md e = true → e.on ≠ i) → oi.apart ops oj = true) →
      i ∈ Region.ready md ops listed → EYields P N ops st oi v env →
      wpAnyE P N md ops st K fuel (listed.setIfInBounds i true) (updO env oi.dst v) → wpAnyE P N md ops st K (fuel + 1) listed env := by
  intro fuel
  induction fuel with
  | zero =>
    intro listed env _ hr hy H
    refine ⟨fun h => (by rw [h] at hr; cases hr), fun j hj => ?_⟩
    by_cases hji : j = i
    · subst hji; exact hy.eOp hi H
    · have := ready_mono hj hji
      rw [H.1] at this
      cases this
  | succ fuel ih =>
    intro listed env hfree hr hy H
    refine ⟨fun h => (by rw [h] at hr; cases hr), fun j hj => ?_⟩
    by_cases hji : j = i
    · subst hji; exact hy.eOp hi H
    · have h1 := H.2 j (ready_mono hj hji)
      obtain ⟨hjun, oj, hoj, hall⟩ := mem_ready.1 hj
      have hnot : ∀ e ∈ oj.after, Region.binds md e = true → e.on ≠ i := fun e he hb heq => by
        have h1 := hall e he hb
        have h0 := (mem_ready.1 hr).1
        rw [heq] at h1
        rcases Nat.lt_or_ge i listed.size with h' | h'
        · simp [h'] at h0 h1; rw [h0] at h1; cases h1
        · simp [Array.getElem?_eq_none h'] at h1
      have h2 := eOp_put hoj (hfree j oj hoj hji hjun hnot) hy h1
      have hfree' : ∀ k ok, ops[k]? = some ok → k ≠ i → (listed.setIfInBounds j true).getD k true = false →
          (∀ e ∈ ok.after, Region.binds md e = true → e.on ≠ i) → oi.apart ops ok = true := fun k ok hk hki hun hno => by
        refine hfree k ok hk hki ?_ hno
        by_cases hjk : j = k
        · subst hjk; exact hjun
        · rw [getD_set_ne true hjk] at hun; exact hun
      refine eOp_mono (fun a' h3 => ih (listed.setIfInBounds j true) a' hfree' (ready_mono hr (Ne.symm hji)) h3.1 ?_) h2
      rw [Array.setIfInBounds_comm _ _ hji]
      exact h3.2

/-- the run in the order of the text -/
def WQ (P : Program) (N : Fm) (ops : Array Oper) (st : List AO) (K : Env → Prop) : List Oper → Env → Prop
  | [], env => K env
  | o :: rest, env => ∃ v, EYields P N ops st o v env ∧ WQ P N ops st K rest (updO env o.dst v)

theorem wpAnyE_lex {K : Env → Prop} : ∀ (l : List Oper) (k : Nat) (listed : Array Bool) (env : Env), (∀ j, l[j]? = ops[k + j]?) →
    Region.lexFrom md ops l.length k listed = true → WQ P N ops st K l env → wpAnyE P N md ops st K l.length listed env
  | [], _, _, _, _, hB, h => ⟨by simpa [Region.lexFrom] using hB, h⟩
  | o :: l, k, listed, env, hl, hB, h => by
    have h0 : ops[k]? = some o := by simpa using (hl 0).symm
    simp only [List.length_cons, Region.lexFrom, Bool.and_eq_true] at hB
    obtain ⟨⟨hr, hf⟩, hB'⟩ := hB
    obtain ⟨v, hy, hK⟩ := h
    exact wpAnyE_first h0 l.length listed env (Region.free_spec h0 hf) (by simpa using hr) hy
      (wpAnyE_lex l (k + 1) _ _ (fun j => by have := hl (j + 1); simpa [Nat.add_assoc, Nat.add_comm 1 j] using this) hB' hK)

theorem WP_draw {env : Env} {Q : Post} {id : Nat} {l : List Oper} (hm : P.follows .mixedOrders = true) (hB : Region.lexB .any l.toArray = true)
    (h : WQ P N l.toArray st (fun env => Q .normal env st) l env) : WP P N (.region id l.toArray true) env st Q := by
  intro w0 σ0 I a w hr
  simp only [Region.lexB, Bool.and_eq_true] at hB
  have hr' : Rel N w0 σ0 I env st a { w with drawn := w.drawn + 1 } := by
    obtain ⟨h1, h2, hI, σ, gh, hb, hk, he⟩ := hr
    exact ⟨h1, h2, hI, σ, gh, hb.grown ⟨rfl, rfl, rfl, Nat.le_refl _, fun _ _ _ => rfl⟩, hk, he⟩
  refine wp_region_any hm (wpAny_of_E (K := fun env => Q .normal env st) (w0 := w0) (σ0 := σ0) (I := I) (fun env a w hr h => ⟨env, st, hr, h⟩) _ _ env _ _ hr' ?_)
  have := wpAnyE_lex (P := P) (N := N) (st := st) (K := fun env => Q .normal env st) (md := .any) (ops := l.toArray) l 0 (Array.replicate l.toArray.size false) env (by simp) (by simpa using hB.2) h
  simpa using this

theorem WQ_nil {K : Env → Prop} {env : Env} (h : K env) : WQ P N ops st K [] env := h

theorem WQ_op {K : Env → Prop} {env : Env} {rest : List Oper} {dst : Option Tmp} {op : Op} {ty : TypeId} {pos : String} {after : Array Edge} {v : AV} (ho : OpS P op (evalE env) st v st) (hd : ∀ d, dst = some d → d < N.n)
    (h : WQ P N ops st K rest (updO env dst v)) : WQ P N ops st K (⟨dst, op, ty, pos, after, none⟩ :: rest) env :=
  ⟨v, ⟨hd, .inl ⟨rfl, ho⟩⟩, h⟩

theorem WQ_guard {K : Env → Prop} {env : Env} {rest : List Oper} {dst : Option Tmp} {op : Op} {ty : TypeId} {pos : String} {after : Array Edge} {j d : Nat} {want b : Bool} {oj : Oper} (hj : ops[j]? = some oj) (hdj : oj.dst = some d) (hdN : d < N.n) (hb : env d = .bool b) (hd : ∀ d, dst = some d → d < N.n)
    (h1 : b = want → ∃ v, OpS P op (evalE env) st v st ∧ WQ P N ops st K rest (updO env dst v))
    (h2 : b ≠ want → WQ P N ops st K rest (updO env dst (.tup []))) : WQ P N ops st K (⟨dst, op, ty, pos, after, some (j, want)⟩ :: rest) env := by
  by_cases e : b = want
  · obtain ⟨v, ho, h⟩ := h1 e
    exact ⟨v, ⟨hd, .inl ⟨⟨oj, d, b, hj, hdj, hdN, .inl ⟨hb, by simp [e]⟩⟩, ho⟩⟩, h⟩
  · exact ⟨.tup [], ⟨hd, .inr ⟨⟨oj, d, b, hj, hdj, hdN, .inl ⟨hb, by simp [e]⟩⟩, rfl⟩⟩, h2 e⟩

/-- a guard that was skipped itself -/
theorem WQ_guard0 {env : Env} {st : List AO} {K : Env → Prop} {rest : List Oper} {dst : Option Tmp} {op : Op} {ty : TypeId} {pos : String} {after : Array Edge} {j d : Nat} {want : Bool} {oj : Oper} (hj : ops[j]? = some oj) (hdj : oj.dst = some d) (hdN : d < N.n) (hb : env d = .tup []) (hd : ∀ d, dst = some d → d < N.n)
    (h : WQ P N ops st K rest (updO env dst (.tup []))) : WQ P N ops st K (⟨dst, op, ty, pos, after, some (j, want)⟩ :: rest) env :=
  ⟨.tup [], ⟨hd, .inr ⟨⟨oj, d, true, hj, hdj, hdN, .inr ⟨hb, rfl⟩⟩, rfl⟩⟩, h⟩

end
end Go.Proofs.Nw.K
end
