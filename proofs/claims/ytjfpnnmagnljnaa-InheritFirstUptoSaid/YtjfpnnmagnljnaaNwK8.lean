/- K8: sealing; structs and slices built from parts. -/
import Derived.Test.YtjfpnnmagnljnaaNwK7
open Go Go.RowKit
set_option linter.unusedVariables false
set_option linter.unusedSimpArgs false
namespace Go.Proofs.Nw.K

/-- a block of cells is sealed, from its begin on -/
def Sig.shut (σ : Sig) (b : Nat) (vals : List Value) : Sig := { cell := fun b' o => if b' = b then vals[o]? else σ.cell b' o, obj := σ.obj }

theorem Sig.le_seal {σ : Sig} {b : Nat} (h : Uns σ b) (vals : List Value) : σ.le (σ.shut b vals) :=
  ⟨fun b' o v hv => by
    simp only [Sig.shut]
    split
    · rename_i e; subst e; rw [h.1] at hv; cases hv
    · exact hv, fun _ _ h => h⟩

theorem Uns.shut {σ : Sig} {b b' : Nat} (h : Uns σ b') (hne : b' ≠ b) (vals : List Value) : Uns (σ.shut b vals) b' :=
  ⟨fun o => by simp only [Sig.shut, if_neg hne]; exact h.1 o, h.2⟩

theorem ObjOk.sig {σ σ' : Sig} {gh st gh' st'} {B : Nat} {w : World} {g : Value} {o : AO} (h : ObjOk σ gh st B w g o) (hl : σ.le σ') (hu : ∀ b, blkOf g = some b → Uns σ b → Uns σ' b)
    (keep : ∀ v a, RepA σ gh st v a → RepA σ' gh' st' v a) : ObjOk σ' gh' st' B w g o := by
  cases o with
  | box bT cells =>
    obtain ⟨b, vals, h1, h2, h3, h4, h5, h6, h7⟩ := h
    exact ⟨b, vals, h1, h2, h3, h4, fun i v c a b => keep _ _ (h5 i v c a b), hu b (by simp [h1, blkOf]) h6, h7⟩
  | row k e sz xs =>
    obtain ⟨vals, h1, h2, h3, h4, h5⟩ := h
    exact ⟨vals, h1, h2, fun i j x d a b => let ⟨v, c1, c2⟩ := h3 i j x d a b; ⟨v, c1, c2.mono hl⟩, fun b hb => hu b hb (h4 b hb), h5⟩
  | mp es =>
    obtain ⟨r, entries, clock, h1, h2, h3, h4, h5, h6⟩ := h
    exact ⟨r, entries, clock, h1, h2, h3, h4, fun i k d a => let ⟨me, c1, c2, c3⟩ := h5 i k d a; ⟨me, c1, c2, c3.mono hl⟩, hu r (by simp [h1, blkOf]) h6⟩
  | gone => trivial

/-- a new block, sealed at once -/
theorem new_sealed {w0 : World} {σ0 σ gh st w} (hb : Base w0 σ0 σ gh st w) (vals : Array Value) (T : TypeId) (h1 : ∀ v ∈ vals, v.oneCell' = true) :
    Fut w0 σ0 σ gh st (σ.shut w.heap.size vals.toList) gh st (w.alloc (.cells vals T)) := by
  have hfr := hb.sl.fresh (Nat.le_refl _)
  have hle := Sig.le_seal hfr vals.toList
  have hg := World.grownBy_alloc w (.cells vals T) none
  have b' := hb.grown hg
  have keep : ∀ v a, RepA σ gh st v a → RepA (σ.shut w.heap.size vals.toList) gh st v a := fun v a h => h.sig hle
  refine ⟨⟨b'.below, fun b h => ?_, ⟨fun b o v hv => ?_, fun r o ho => ?_⟩, b'.len, b'.sep, b'.lt, fun s o g h1 h2 => ?_⟩, keep⟩
  · have : b ≠ w.heap.size := by have := hb.below.size; omega
    have := hb.ext b h
    exact ⟨by funext o; simp only [Sig.shut]; rw [if_neg ‹_›]; exact congrFun this.1 o, this.2⟩
  · simp only [Sig.shut] at hv
    split at hv
    · rename_i e; subst e
      refine ⟨?_, h1 v (by rw [← Array.mem_toList_iff]; exact List.mem_of_getElem? hv)⟩
      rw [World.cell?_alloc_new]; simpa using hv
    · exact b'.sl.cell b o v hv
  · exact b'.sl.obj r o ho
  · refine (b'.obj s o g h1 h2).sig hle (fun b hbk hu => hu.shut ?_ _) keep
    have := hb.lt s g b h2 hbk; omega

/-- a row of one's own is given out as data, and not written again -/
theorem seal_row {w0 : World} {σ0 σ gh st w} (hb : Base w0 σ0 σ gh st w) {s k e sz : Nat} {xs} (hst : st[s]? = some (.row k e sz xs)) {g : Value} (hg : gh[s]? = some g) :
    ∃ σ', Fut w0 σ0 σ gh st σ' gh (st.set s .gone) w ∧ Rep σ' g (.list sz xs) := by
  obtain ⟨vals, hown, hsz, hval, huns, hone⟩ := hb.obj s _ _ hst hg
  have keep0 : ∀ v a, RepA σ gh st v a → RepA σ gh (st.set s .gone) v a := fun v a h => h.set hst _ (fun _ _ _ _ h => by cases h)
  have hslt : s < st.length := (List.getElem?_eq_some_iff.1 hst).1
  rcases hown.2 with ⟨rfl, h0⟩ | ⟨b, cap, cur, rfl, hbb, hheap, hnc, hcm, hcs, htake⟩
  · refine ⟨σ, ⟨⟨hb.below, hb.ext, hb.sl, by simp [hb.len], hb.sep, hb.lt, fun t o1 g1 h1 h2 => ?_⟩, keep0⟩, ?_⟩
    · rw [List.getElem?_set] at h1
      split at h1
      · simp [hslt] at h1; subst h1; trivial
      · exact (hb.obj t o1 g1 h1 h2).sig (.refl σ) (fun _ _ h => h) keep0
    · have : xs = [] := List.eq_nil_of_length_eq_zero h0
      subst this
      exact .nil (by simp [maxLen])
  · have hu := huns b (by simp [blkOf])
    have hle := Sig.le_seal hu vals
    have keep : ∀ v a, RepA σ gh st v a → RepA (σ.shut b vals) gh (st.set s .gone) v a := fun v a h => (keep0 v a h).sig hle
    refine ⟨σ.shut b vals, ⟨⟨hb.below, fun b' h => ?_, ⟨fun b' o v hv => ?_, hb.sl.obj⟩, by simp [hb.len], hb.sep, hb.lt, fun t o1 g1 h1 h2 => ?_⟩, keep⟩, ?_⟩
    · have : b' ≠ b := by omega
      have := hb.ext b' h
      exact ⟨by funext o; simp only [Sig.shut]; rw [if_neg ‹_›]; exact congrFun this.1 o, this.2⟩
    · simp only [Sig.shut] at hv
      split at hv
      · rename_i e'; subst e'
        refine ⟨?_, hone v (List.mem_of_getElem? hv)⟩
        have := hown.cells (g := b') (by simp [Value.ownBlock]) o v hv
        rwa [add_lit, Nat.zero_add] at this
      · exact hb.sl.cell b' o v hv
    · rw [List.getElem?_set] at h1
      split at h1
      · simp [hslt] at h1; subst h1; trivial
      · rename_i hne
        refine (hb.obj t o1 g1 h1 h2).sig hle (fun b' hbk hu' => hu'.shut ?_ _) keep
        intro e'; subst e'
        exact hb.sep s t b' hne (by rw [hg]; simp [blkOf]) (by rw [h2]; exact hbk)
    · by_cases h0 : xs.length = 0
      · have : xs = [] := List.eq_nil_of_length_eq_zero h0
        subst this
        exact .nil (by omega)
      · refine .list (fun i j => vals.getD (i * sz + j) undef) rfl (by omega) hnc hcm hsz (fun i j hi hj => ?_) (fun i j x d hx hd => ?_)
        · have hlt : i * sz + j < vals.length := by
            rw [hown.1]
            calc i * sz + j < i * sz + sz := by omega
              _ = (i + 1) * sz := by rw [Nat.add_mul]; omega
              _ ≤ xs.length * sz := Nat.mul_le_mul_right _ (by omega)
          simp [Sig.shut, hlt, List.getD]
        · obtain ⟨v, h1, h2⟩ := hval i j x d hx hd
          simp only [List.getD, h1, Option.getD_some]
          exact h2.mono hle

/-! ### parts -/
def dsOf : AV → Option (List D)
  | .v (.one d) => some [d]
  | .v (.agg cs) => some cs
  | _ => none

def fillD (place : Nat → Option (Nat × Nat)) (cells : List D) : List (Nat × AV) → Option (List D)
  | [] => some cells
  | (i, a) :: rest =>
    match place i, dsOf a with
    | some (off, size), some ds => if ds.length ≠ size || cells.length < off + size then none else fillD place (cells.take off ++ ds ++ cells.drop (off + size)) rest
    | _, _ => none

theorem foldl_set (off : Nat) : ∀ (l : List Value) (j : Nat) (cs : Array Value), (l.zipIdx j).foldl (fun cs (x : Value × Nat) => cs.setIfInBounds (off + x.2) x.1) cs =
    (cs.toList.zipIdx.map fun (x : Value × Nat) => if off + j ≤ x.2 ∧ x.2 < off + j + l.length then (l[x.2 - (off + j)]?).getD x.1 else x.1).toArray
  | [], j, cs => by
    apply Array.ext_getElem?
    intro i
    simp only [List.zipIdx_nil, List.foldl_nil, List.getElem?_toArray, List.getElem?_map, List.getElem?_zipIdx, List.length_nil, Nat.add_zero, Array.getElem?_toList]
    cases cs[i]? <;> simp <;> omega
  | v :: l, j, cs => by
    rw [List.zipIdx_cons, List.foldl_cons, foldl_set off l (j + 1)]
    apply Array.ext_getElem?
    intro i
    simp only [List.getElem?_toArray, List.getElem?_map, List.getElem?_zipIdx, Array.getElem?_toList, Array.getElem?_setIfInBounds, Nat.zero_add, List.length_cons]
    by_cases hi : i < cs.size
    · by_cases e : off + j = i
      · subst e
        have c1 : ¬ (off + (j + 1) ≤ off + j) := by omega
        have c2 : off + j < off + j + (l.length + 1) := by omega
        simp [hi, c1, c2]
      · simp only [e, if_false, hi, Array.getElem?_eq_getElem, Option.map_some]
        congr 1
        by_cases h1 : off + (j + 1) ≤ i ∧ i < off + (j + 1) + l.length
        · rw [if_pos h1, if_pos (by omega)]
          have : i - (off + j) = (i - (off + (j + 1))) + 1 := by omega
          rw [this, List.getElem?_cons_succ]
        · rw [if_neg h1, if_neg (by omega)]
    · have e1 : cs[i]? = none := by simp; omega
      have c1 : ¬ (off + j = i ∧ i < cs.size) := by omega
      by_cases e : off + j = i
      · simp [e1, hi, e]
      · simp [e1, hi, e]

theorem fill_step (off : Nat) (vs : List Value) (cs : Array Value) (h : off + vs.length ≤ cs.size) :
    vs.toArray.zipIdx.foldl (fun cs (x : Value × Nat) => cs.setIfInBounds (off + x.2) x.1) cs = (cs.toList.take off ++ vs ++ cs.toList.drop (off + vs.length)).toArray := by
  rw [← Array.foldl_toList, Array.toList_zipIdx]
  simp only []
  rw [foldl_set off vs 0 cs]
  congr 1
  apply List.ext_getElem?
  intro i
  simp only [List.getElem?_map, List.getElem?_zipIdx, Nat.zero_add, Nat.add_zero]
  have l1 : (List.take off cs.toList).length = off := by simp; omega
  rw [List.append_assoc, List.getElem?_append, l1]
  by_cases h1 : i < off
  · rw [if_pos h1, List.getElem?_take_of_lt h1]
    cases hc : cs.toList[i]? <;> simp; omega
  · rw [if_neg h1, List.getElem?_append]
    by_cases h2 : i - off < vs.length
    · rw [if_pos h2]
      have : i < cs.toList.length := by simp; omega
      rw [List.getElem?_eq_getElem this]
      simp only [Option.map_some]
      rw [if_pos (by omega), List.getElem?_eq_getElem h2]; rfl
    · rw [if_neg h2, List.getElem?_drop]
      have : off + vs.length + (i - off - vs.length) = i := by omega
      rw [this]
      cases hc : cs.toList[i]? <;> simp; omega

theorem dsOf_vals {σ : Sig} {gh st} {v : Value} {a : AV} {ds : List D} (h : RepA σ gh st v a) (hd : dsOf a = some ds) : v.cells.size = ds.length ∧ RepL σ v.cells.toList ds := by
  cases a with
  | v x =>
    cases x with
    | one d =>
      cases hd
      have h : Rep σ v d := h
      rw [one_cells h.one]
      refine ⟨rfl, rfl, fun i u d' hu hd' => ?_⟩
      cases i with
      | zero => simp at hu hd'; subst hu hd'; exact h
      | succ i => simp at hu
    | agg cs =>
      cases hd
      obtain ⟨vs, rfl, hl, hr⟩ := h
      exact ⟨by simpa [Value.cells] using hl, by simpa [Value.cells] using hl, fun i u d hu hd => hr i u d (by simpa [Value.cells] using hu) hd⟩
  | _ => simp [dsOf] at hd

theorem RepL.splice {σ : Sig} {cs vs : List Value} {ds es : List D} (h : RepL σ cs ds) (k : RepL σ vs es) (off : Nat) (hle : off + vs.length ≤ cs.length) :
    RepL σ (cs.take off ++ vs ++ cs.drop (off + vs.length)) (ds.take off ++ es ++ ds.drop (off + es.length)) := by
  have e1 := h.1
  have e2 := k.1
  refine ⟨by simp; omega, fun i v d hv hd => ?_⟩
  rw [List.append_assoc, List.getElem?_append] at hv hd
  have l1 : (List.take off cs).length = off := by simp; omega
  have l2 : (List.take off ds).length = off := by simp; omega
  rw [l1] at hv
  rw [l2] at hd
  split at hv
  · rename_i hi
    rw [if_pos hi] at hd
    rw [List.getElem?_take_of_lt hi] at hv hd
    exact h.2 i v d hv hd
  · rename_i hi
    rw [if_neg hi] at hd
    rw [List.getElem?_append] at hv hd
    split at hv
    · rename_i hi2
      rw [if_pos (by omega)] at hd
      exact k.2 _ v d hv hd
    · rename_i hi2
      rw [if_neg (by omega)] at hd
      rw [List.getElem?_drop] at hv hd
      refine h.2 _ v d hv ?_
      rw [← hd]; congr 1; omega

theorem fill_rep {σ : Sig} {gh st} (place : Nat → Option (Nat × Nat)) : ∀ (vp : List (Nat × Value)) (ap : List (Nat × AV)) (cs : Array Value) (ds out : List D), vp.length = ap.length →
    (∀ (j : Nat) x y, vp[j]? = some x → ap[j]? = some y → x.1 = y.1 ∧ RepA σ gh st x.2 y.2) → RepL σ cs.toList ds → fillD place ds ap = some out →
    ∃ cs', Instr.fill place cs vp = some cs' ∧ RepL σ cs'.toList out
  | [], ap, cs, ds, out, hl, hp, hr, hf => by
    cases ap with
    | nil => simp only [fillD, Option.some.injEq] at hf; subst hf; exact ⟨cs, rfl, hr⟩
    | cons _ _ => simp at hl
  | (i, v) :: vp, ap, cs, ds, out, hl, hp, hr, hf => by
    cases ap with
    | nil => simp at hl
    | cons y ap =>
      obtain ⟨i', a⟩ := y
      obtain ⟨e1, hv⟩ := hp 0 (i, v) (i', a) rfl rfl
      simp only at e1
      subst e1
      unfold fillD at hf
      split at hf
      · rename_i off size es hpl hds
        split at hf
        · cases hf
        · rename_i hc
          simp at hc
          obtain ⟨h1, h2⟩ := dsOf_vals hv hds
          simp only at h1 h2
          have hcl : cs.size = ds.length := by simpa using hr.1
          have hstep := fill_step off v.cells.toList cs (by simp; omega)
          have hr' := hr.splice h2 off (by simp; omega)
          have hsz : v.cells.toList.length = size := by simp; omega
          have hs2 : es.length = size := hc.1
          rw [hs2, hsz] at hr'
          obtain ⟨cs', hf', hr2⟩ := fill_rep place vp ap (cs.toList.take off ++ v.cells.toList ++ cs.toList.drop (off + size)).toArray _ out (by simpa using hl) (fun j x y hx hy => hp (j + 1) x y (by simpa using hx) (by simpa using hy)) (by simpa using hr') hf
          refine ⟨cs', ?_, hr2⟩
          unfold Instr.fill
          rw [hpl]
          simp only []
          rw [if_neg (by simp; omega)]
          rw [hsz] at hstep
          simp only [Array.toArray_toList] at hstep
          rw [← hf']
          congr 1
      · cases hf

end Go.Proofs.Nw.K
