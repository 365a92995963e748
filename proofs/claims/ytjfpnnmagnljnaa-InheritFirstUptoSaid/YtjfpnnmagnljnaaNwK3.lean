/- K3: the own things: how the abstract state is kept by new blocks and by stores. -/
import Derived.Test.YtjfpnnmagnljnaaNwK2
open Go Go.RowKit
set_option linter.unusedVariables false
set_option linter.unusedSimpArgs false
namespace Go.Proofs.Nw.K

universe u
theorem get_app {α : Type u} {l : List α} {s : Nat} {a : α} (h : l[s]? = some a) (x : List α) : (l ++ x)[s]? = some a := by
  rw [List.getElem?_append_left (List.getElem?_eq_some_iff.1 h).1]; exact h

theorem RepA.push {σ : Sig} {gh st} {v : Value} {a : AV} (h : RepA σ gh st v a) (g : List Value) (o : List AO) : RepA σ (gh ++ g) (st ++ o) v a := by
  cases a with
  | v x => exact h
  | ptr s off => obtain ⟨b, h1, h2⟩ := h; exact ⟨b, get_app h1 _, h2⟩
  | h s k lo n => obtain ⟨g', o', h1, h2, h3⟩ := h; exact ⟨g', o', get_app h1 _, get_app h2 _, h3⟩
  | ep s k i off => obtain ⟨g', o', h1, h2, h3⟩ := h; exact ⟨g', o', get_app h1 _, get_app h2 _, h3⟩
  | omap s => exact ⟨get_app h.1 _, h.2⟩
  | tup vs => exact h
  | clo f caps => obtain ⟨us, h1, h2, h3⟩ := h; exact ⟨us, h1, h2, fun i u s hu hs => ⟨get_app (h3 i u s hu hs).1 _, (h3 i u s hu hs).2⟩⟩
  | junk => trivial

theorem RepA.sig {σ σ' : Sig} {gh st} {v : Value} {a : AV} (h : RepA σ gh st v a) (hl : σ.le σ') : RepA σ' gh st v a := by
  cases a with
  | v x => exact RepV.mono h hl
  | tup vs => obtain ⟨us, h1, h2⟩ := h; exact ⟨us, h1, h2.mono hl⟩
  | _ => exact h

/-- the sealed things are where they were -/
theorem Sealed.grown {σ : Sig} {w w' : World} (h : Sealed σ w) {row : Option Nat} (hg : w.grownBy w' row) (hu : ∀ b, row = some b → Uns σ b) : Sealed σ w' := by
  have key : ∀ b, b < w.heap.size → (some b ≠ row) → w'.heap[b]? = w.heap[b]? := fun b hb hn => hg.block b hb hn
  refine ⟨fun b o v hv => ?_, fun r o ho => ?_⟩
  · have h1 := h.cell b o v hv
    have hlt := World.block_lt_of_cell? w _ h1.1
    have hne : some b ≠ row := fun e => by have := (hu b e.symm).1 o; rw [this] at hv; cases hv
    exact ⟨(World.cell?_of_block (w := w) (key b hlt hne)).trans h1.1, h1.2⟩
  · have h1 := h.obj r o ho
    have hlt : r < w.heap.size := (Array.getElem?_eq_some_iff.1 h1).1
    have hne : some r ≠ row := fun e => by have := (hu r e.symm).2; rw [this] at ho; cases ho
    exact (key r hlt hne).trans h1

theorem ObjOk.grown {σ : Sig} {gh st gh' st'} {B : Nat} {w w' : World} {g : Value} {o : AO} (h : ObjOk σ gh st B w g o) {row : Option Nat} (hg : w.grownBy w' row)
    (hne : ∀ b, blkOf g = some b → some b ≠ row) (keep : ∀ v a, RepA σ gh st v a → RepA σ gh' st' v a) : ObjOk σ gh' st' B w' g o := by
  cases o with
  | box bT cells =>
    obtain ⟨b, vals, h1, h2, h3, h4, h5, h6, h7⟩ := h
    refine ⟨b, vals, h1, h2, ?_, h4, fun i v c a b => keep _ _ (h5 i v c a b), h6, h7⟩
    rw [hg.block b (Array.getElem?_eq_some_iff.1 h3).1 (hne b (by simp [h1, blkOf]))]; exact h3
  | row k e sz xs =>
    obtain ⟨vals, h1, h2, h3, h4, h5⟩ := h
    refine ⟨vals, h1.kept hg ?_, h2, h3, h4, h5⟩
    cases hv : g.ownBlock with
    | none => exact .inl rfl
    | some b =>
      refine .inr (hne b ?_)
      cases g <;> simp [Value.ownBlock] at hv
      rename_i a n c
      cases a <;> simp [Value.ownBlock] at hv
      simp [blkOf, hv]
  | mp es =>
    obtain ⟨r, entries, clock, h1, h2, h3, h4, h5, h6⟩ := h
    refine ⟨r, entries, clock, h1, h2, ?_, h4, h5, h6⟩
    rw [hg.block r (Array.getElem?_eq_some_iff.1 h3).1 (hne r (by simp [h1, blkOf]))]; exact h3
  | gone => trivial

theorem ObjOk.blk {σ : Sig} {gh st} {B : Nat} {w : World} {g : Value} {o : AO} (h : ObjOk σ gh st B w g o) (hn : o ≠ .gone) {b : Nat} (hb : blkOf g = some b) : B ≤ b ∧ Uns σ b ∧ b < w.heap.size := by
  cases o with
  | box bT cells =>
    obtain ⟨b', vals, h1, h2, h3, h4, h5, h6, h7⟩ := h
    subst h1
    simp [blkOf] at hb
    subst hb
    exact ⟨h2, h6, (Array.getElem?_eq_some_iff.1 h3).1⟩
  | row k e sz xs =>
    obtain ⟨vals, h1, h2, h3, h4, h5⟩ := h
    have hv : g.ownBlock = some b := by
      rcases h1.2 with ⟨hg, _⟩ | ⟨g', cap, cur, hg, _⟩
      · subst hg; simp [blkOf] at hb
      · subst hg; simpa [blkOf, Value.ownBlock] using hb
    have := h1.lt b hv
    exact ⟨this.1, h4 b hb, this.2⟩
  | mp es =>
    obtain ⟨r, entries, clock, h1, h2, h3, h4, h5, h6⟩ := h
    subst h1
    simp [blkOf] at hb
    subst hb
    exact ⟨h2, h6, (Array.getElem?_eq_some_iff.1 h3).1⟩
  | gone => exact absurd rfl hn

/-- nothing of the own things turns: new blocks alone -/
theorem Base.grown {w0 : World} {σ0 σ gh st w w'} (hb : Base w0 σ0 σ gh st w) (hg : w.grownBy w' none) : Base w0 σ0 σ gh st w' where
  below := hb.below.grown hg hb.below.size (fun _ h => by cases h)
  ext := hb.ext
  sl := hb.sl.grown hg (fun _ h => by cases h)
  len := hb.len
  sep := hb.sep
  lt := fun s g b h1 h2 => Nat.lt_of_lt_of_le (hb.lt s g b h1 h2) hg.size
  obj := fun s o g h1 h2 => (hb.obj s o g h1 h2).grown hg (fun _ _ h => by cases h) (fun _ _ h => h)

/-- what lies behind the heap is unsealed -/
theorem Sealed.fresh {σ : Sig} {w : World} (h : Sealed σ w) {b : Nat} (hb : w.heap.size ≤ b) : Uns σ b := by
  refine ⟨fun o => ?_, ?_⟩
  · cases hc : σ.cell b o with
    | none => rfl
    | some v => have := World.block_lt_of_cell? w _ (h.cell b o v hc).1; simp at this; omega
  · cases hc : σ.obj b with
    | none => rfl
    | some v => have := (Array.getElem?_eq_some_iff.1 (h.obj b v hc)).1; omega

/-- a new own thing -/
theorem Base.push {w0 : World} {σ0 σ gh st w w'} (hb : Base w0 σ0 σ gh st w) (hg : w.grownBy w' none) (g : Value) (o : AO)
    (hblk : ∀ b, blkOf g = some b → w.heap.size ≤ b ∧ b < w'.heap.size) (ho : ObjOk σ gh st w0.heap.size w' g o) :
    Fut w0 σ0 σ gh st σ (gh ++ [g]) (st ++ [o]) w' := by
  have b' := hb.grown hg
  refine ⟨⟨b'.below, b'.ext, b'.sl, by simp [hb.len], ?_, ?_, ?_⟩, fun v a h => h.push _ _⟩
  · intro s s' b hne h1 h2
    have cls : ∀ s, (gh ++ [g])[s]?.bind blkOf = some b → (gh[s]?.bind blkOf = some b ∧ b < w.heap.size) ∨ (s = gh.length ∧ blkOf g = some b) := by
      intro s h
      rw [List.getElem?_append] at h
      split at h
      · refine .inl ⟨h, ?_⟩
        cases hs : gh[s]? with
        | none => simp [hs] at h
        | some g' => rw [hs] at h; exact hb.lt s g' b hs h
      · rename_i hs
        by_cases e : s = gh.length
        · subst e; simp at h; exact .inr ⟨rfl, h⟩
        · have : s - gh.length ≠ 0 := by omega
          simp [List.getElem?_cons, this] at h
    rcases cls s h1 with ⟨a, c⟩ | ⟨a, c⟩ <;> rcases cls s' h2 with ⟨a', c'⟩ | ⟨a', c'⟩
    · exact hb.sep s s' b hne a a'
    · have := (hblk b c').1; omega
    · have := (hblk b c).1; omega
    · omega
  · intro s g' b h1 h2
    rw [List.getElem?_append] at h1
    split at h1
    · exact b'.lt s g' b h1 h2
    · rename_i hs
      by_cases e : s - gh.length = 0
      · simp [e] at h1; subst h1; exact (hblk b h2).2
      · simp [List.getElem?_cons, e] at h1
  · intro s o' g' h1 h2
    have hk : ∀ v a, RepA σ gh st v a → RepA σ (gh ++ [g]) (st ++ [o]) v a := fun v a h => h.push _ _
    rw [List.getElem?_append] at h1 h2
    have hl := hb.len
    split at h1
    · rename_i hs
      rw [if_pos (by omega)] at h2
      exact (b'.obj s o' g' h1 h2).grown (row := none) ⟨rfl, rfl, rfl, Nat.le_refl _, fun _ _ _ => rfl⟩ (fun _ _ h => by cases h) hk
    · rename_i hs
      rw [if_neg (by omega)] at h2
      by_cases e : s - gh.length = 0
      · have e' : s - st.length = 0 := by omega
        simp [e] at h2; simp [e'] at h1
        subst h1 h2
        exact ho.grown (row := none) ⟨rfl, rfl, rfl, Nat.le_refl _, fun _ _ _ => rfl⟩ (fun _ _ h => by cases h) hk
      · simp [List.getElem?_cons, e] at h2

/-- an own thing turns; its block may become another, new one -/
theorem Base.turn {w0 : World} {σ0 σ gh st w w'} (hb : Base w0 σ0 σ gh st w) {s : Nat} {o : AO} {g : Value} (hs : st[s]? = some o) (hgs : gh[s]? = some g) (hn : o ≠ .gone)
    (hg : w.grownBy w' (blkOf g)) (g' : Value) (o' : AO)
    (hblk : ∀ b, blkOf g' = some b → blkOf g = some b ∨ (w.heap.size ≤ b ∧ b < w'.heap.size))
    (ho : ObjOk σ (gh.set s g') (st.set s o') w0.heap.size w' g' o')
    (keep : ∀ v a, RepA σ gh st v a → RepA σ (gh.set s g') (st.set s o') v a) :
    Fut w0 σ0 σ gh st σ (gh.set s g') (st.set s o') w' := by
  have hob := hb.obj s o g hs hgs
  have hslt : s < st.length := (List.getElem?_eq_some_iff.1 hs).1
  have hbelow : Below w0.heap.size w0 w' := hb.below.grown hg hb.below.size (fun b e => (hob.blk hn e).1)
  have look : ∀ t (x : Value), (gh.set s g')[t]? = some x → (t = s ∧ x = g') ∨ (t ≠ s ∧ gh[t]? = some x) := by
    intro t x h
    rw [List.getElem?_set] at h
    split at h
    · rename_i e; subst e; simp [hb.len, hslt] at h; exact .inl ⟨rfl, h.symm⟩
    · rename_i e; exact .inr ⟨fun e' => e e'.symm, h⟩
  refine ⟨⟨hbelow, hb.ext, hb.sl.grown hg (fun b e => (hob.blk hn e).2.1), by simp [hb.len], ?_, ?_, ?_⟩, keep⟩
  · intro t t' b hne h1 h2
    cases e1 : (gh.set s g')[t]? with
    | none => simp [e1] at h1
    | some x =>
      cases e2 : (gh.set s g')[t']? with
      | none => simp [e2] at h2
      | some y =>
        rw [e1] at h1; rw [e2] at h2
        have h1 : blkOf x = some b := h1
        have h2 : blkOf y = some b := h2
        rcases look t x e1 with ⟨rfl, rfl⟩ | ⟨n1, a1⟩ <;> rcases look t' y e2 with ⟨rfl, rfl⟩ | ⟨n2, a2⟩
        · exact hne rfl
        · rcases hblk b h1 with h | h
          · exact hb.sep t t' b hne (by rw [hgs]; exact h) (by rw [a2]; exact h2)
          · have := hb.lt t' y b a2 h2; omega
        · rcases hblk b h2 with h | h
          · exact hb.sep t t' b hne (by rw [a1]; exact h1) (by rw [hgs]; exact h)
          · have := hb.lt t x b a1 h1; omega
        · exact hb.sep t t' b hne (by rw [a1]; exact h1) (by rw [a2]; exact h2)
  · intro t x b h1 h2
    rcases look t x h1 with ⟨rfl, rfl⟩ | ⟨n1, a1⟩
    · rcases hblk b h2 with h | h
      · exact Nat.lt_of_lt_of_le (hb.lt t g b hgs h) hg.size
      · exact h.2
    · exact Nat.lt_of_lt_of_le (hb.lt t x b a1 h2) hg.size
  · intro t o1 g1 h1 h2
    rcases look t g1 h2 with ⟨rfl, rfl⟩ | ⟨n1, a1⟩
    · rw [List.getElem?_set] at h1
      simp [hslt] at h1
      subst h1
      exact ho
    · rw [List.getElem?_set, if_neg (fun e => n1 e.symm)] at h1
      refine (hb.obj t o1 g1 h1 a1).grown hg (fun b e1 e2 => ?_) keep
      exact hb.sep t s b n1 (by rw [a1]; exact e1) (by rw [hgs]; exact e2.symm)

end Go.Proofs.Nw.K
