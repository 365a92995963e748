/- K12: forgetting slots and own things; views of one thing as another. -/
import Derived.Test.YtjfpnnmagnljnaaNwK11
open Go Go.RowKit
set_option linter.unusedVariables false
set_option linter.unusedSimpArgs false
namespace Go.Proofs.Nw.K

def ofL : List (Nat × AV) → Env
  | [] => fun _ => .junk
  | (t, v) :: r => upd (ofL r) t v

def belowN (n : Nat) : AV → Bool
  | .ptr s _ => decide (s < n)
  | .h s _ _ _ => decide (s < n)
  | .ep s _ _ _ => decide (s < n)
  | .omap s => decide (s < n)
  | .clo _ caps => caps.all fun s => decide (s < n)
  | _ => true

def objBelow (n : Nat) : AO → Bool
  | .box bT cells => cells.all (belowN n)
  | _ => true

def agree (env : Env) (n : Nat) : List (Nat × AV) → Prop
  | [] => True
  | (t, v) :: r => env t = v ∧ belowN n v = true ∧ agree env n r

theorem agree_get {env : Env} {n : Nat} : ∀ {l : List (Nat × AV)}, agree env n l → ∀ t, ofL l t = .junk ∨ (ofL l t = env t ∧ belowN n (env t) = true)
  | [], _, t => .inl rfl
  | (t', v) :: r, h, t => by
    obtain ⟨h1, h2, h3⟩ := h
    simp only [ofL, upd]
    split
    · rename_i e; subst e; exact .inr ⟨h1.symm, by rw [h1]; exact h2⟩
    · exact agree_get h3 t

universe u
theorem get_take {α : Type u} {l : List α} {s n : Nat} {a : α} (h : l[s]? = some a) (hs : s < n) : (l.take n)[s]? = some a := by
  rw [List.getElem?_take_of_lt hs]; exact h

theorem RepA.take {σ : Sig} {gh st} {v : Value} {a : AV} (h : RepA σ gh st v a) {n : Nat} (hn : belowN n a = true) : RepA σ (gh.take n) (st.take n) v a := by
  cases a with
  | v x => exact h
  | ptr s off => obtain ⟨b, h1, h2⟩ := h; exact ⟨b, get_take h1 (by simpa [belowN] using hn), h2⟩
  | h s k lo m => obtain ⟨g', o', h1, h2, h3⟩ := h; exact ⟨g', o', get_take h1 (by simpa [belowN] using hn), get_take h2 (by simpa [belowN] using hn), h3⟩
  | ep s k i off => obtain ⟨g', o', h1, h2, h3⟩ := h; exact ⟨g', o', get_take h1 (by simpa [belowN] using hn), get_take h2 (by simpa [belowN] using hn), h3⟩
  | omap s => exact ⟨get_take h.1 (by simpa [belowN] using hn), h.2⟩
  | tup vs => exact h
  | clo f caps =>
    obtain ⟨us, h1, h2, h3⟩ := h
    refine ⟨us, h1, h2, fun i u s hu hs => ⟨get_take (h3 i u s hu hs).1 ?_, (h3 i u s hu hs).2⟩⟩
    simp only [belowN, List.all_eq_true, decide_eq_true_eq] at hn
    exact hn s (List.mem_of_getElem? hs)
  | junk => trivial

/-- what an abstract value speaks of is there -/
theorem belowN_of {σ : Sig} {gh st} {v : Value} {a : AV} (h : RepA σ gh st v a) {n : Nat} (hn : gh.length ≤ n) : belowN n a = true := by
  have key : ∀ {s : Nat} {g : Value}, gh[s]? = some g → s < n := fun h => by have := (List.getElem?_eq_some_iff.1 h).1; omega
  cases a with
  | ptr s off => obtain ⟨b, h1, _⟩ := h; simpa [belowN] using key h1
  | h s k lo m => obtain ⟨g, o, h1, _⟩ := h; simpa [belowN] using key h1
  | ep s k i off => obtain ⟨g, o, h1, _⟩ := h; simpa [belowN] using key h1
  | omap s => simpa [belowN] using key h.1
  | clo f caps =>
    obtain ⟨us, h1, h2, h3⟩ := h
    simp only [belowN, List.all_eq_true, decide_eq_true_eq]
    intro s hs
    obtain ⟨i, hi, rfl⟩ := List.getElem_of_mem hs
    exact key (h3 i us[i] caps[i] (by simp [h2, hi]) (by simp [hi])).1
  | _ => rfl

theorem take_get {α : Type u} {l : List α} {s n : Nat} {a : α} (h : (l.take n)[s]? = some a) : l[s]? = some a ∧ s < n := by
  rw [List.getElem?_take] at h
  split at h
  · exact ⟨h, ‹_›⟩
  · cases h

theorem Base.take {w0 : World} {σ0 σ gh st w} (hb : Base w0 σ0 σ gh st w) (n : Nat) (ho : ((st.take n).all (objBelow n)) = true) : Base w0 σ0 σ (gh.take n) (st.take n) w where
  below := hb.below
  ext := hb.ext
  sl := hb.sl
  len := by simp [hb.len]
  sep := fun s s' b hne h1 h2 => by
    cases e1 : (gh.take n)[s]? with
    | none => simp [e1] at h1
    | some x =>
      cases e2 : (gh.take n)[s']? with
      | none => simp [e2] at h2
      | some y =>
        rw [e1] at h1; rw [e2] at h2
        exact hb.sep s s' b hne (by rw [(take_get e1).1]; exact h1) (by rw [(take_get e2).1]; exact h2)
  lt := fun s g b h1 h2 => hb.lt s g b (take_get h1).1 h2
  obj := fun s o g h1 h2 => by
    have h3 := hb.obj s o g (take_get h1).1 (take_get h2).1
    have hob := List.all_eq_true.1 ho o (List.mem_of_getElem? h1)
    cases o with
    | box bT cells =>
      obtain ⟨b, vals, a1, a2, a3, a4, a5, a6, a7⟩ := h3
      refine ⟨b, vals, a1, a2, a3, a4, fun i v c hv hc => (a5 i v c hv hc).take ?_, a6, a7⟩
      simp only [objBelow, List.all_eq_true] at hob
      exact hob c (List.mem_of_getElem? hc)
    | row _ _ _ _ => exact h3
    | mp _ => exact h3
    | gone => trivial

theorem Sub.ofL {N : Fm} {env : Env} {st : List AO} (l : List (Nat × AV)) (ob : List AO) (h0 : N.o ≤ ob.length) (h1 : agree env ob.length l) (h2 : st.take ob.length = ob) (h3 : (ob.all (objBelow ob.length)) = true) : Sub N env st (ofL l) ob := by
  intro w0 σ0 I a w ⟨hs, hd, hI, σ, gh, hb, hk, he⟩
  have hb' := hb.take ob.length (by rw [h2]; exact h3)
  rw [h2] at hb'
  refine ⟨hs, hd, hI, σ, gh.take ob.length, hb', fun v a ha => ?_, fun t => ?_⟩
  · have hle : I.gh.length ≤ ob.length := by omega
    have := (hk v a ha).take (belowN_of ha hle)
    rwa [h2] at this
  rcases agree_get h1 t with h | ⟨h, h'⟩
  · rw [h]; trivial
  · rw [h]
    have := (he t).take h'
    rwa [h2] at this

theorem Sub.slot {N : Fm} {env : Env} {st st' : List AO} (t : Nat) (v : AV) (h : ∀ w0 σ0 σ gh w u, Base w0 σ0 σ gh st w → RepA σ gh st u (env t) → ∃ σ' gh', Fut w0 σ0 σ gh st σ' gh' st' w ∧ RepA σ' gh' st' u v) :
    Sub N env st (upd env t v) st' := by
  intro w0 σ0 I a w ⟨hs, hd, hI, σ, gh, hb, hk, he⟩
  obtain ⟨σ', gh', hf, hv⟩ := h w0 σ0 σ gh w _ hb (he t)
  refine ⟨hs, hd, hI, σ', gh', hf.base, fun v a ha => hf.keep _ _ (hk v a ha), fun t' => ?_⟩
  simp only [upd]
  split
  · rename_i e; subst e; exact hv
  · exact hf.keep _ _ (he t')

/-- nothing, seen as a row of one's own -/
theorem Sub.nilsRow {N : Fm} {env : Env} {st : List AO} (t : Nat) (e sz : Nat) (h : env t = .nils) : Sub N env st (upd env t (.h st.length 0 0 0)) (st ++ [.row 0 e sz []]) :=
  Sub.slot t _ fun w0 σ0 σ gh w u hb hu => by
    rw [h] at hu
    have hu := nils_val hu
    have hf := hb.push (w' := w) ⟨rfl, rfl, rfl, Nat.le_refl _, fun _ _ _ => rfl⟩ (.slice none 0 0) (.row 0 e sz []) (fun b h => by simp [blkOf] at h)
      ⟨[], World.ownsRow_nil w _ e sz, fun i x h => by simp at h, fun i j x d h => by simp at h, fun b h => by simp [blkOf] at h, by simp⟩
    refine ⟨σ, _, hf, .slice none 0 0, _, by rw [← hb.len]; simp, by simp; rfl, fun k' e' sz' xs' heq => ?_⟩
    cases heq
    exact ⟨Nat.le_refl _, fun _ => ⟨by simp, .inl ⟨rfl, rfl, hu⟩⟩⟩

theorem Sub.nilsList {N : Fm} {env : Env} {st : List AO} (t : Nat) (sz : Nat) (h : env t = .nils) : Sub N env st (upd env t (.list sz [])) st :=
  Sub.slot t _ fun w0 σ0 σ gh w u hb hu => by
    rw [h] at hu
    have hu := nils_val hu
    subst hu
    exact ⟨σ, gh, .refl hb, Rep.nil (by simp [maxLen])⟩

/-- a row of one's own is given out -/
theorem Sub.shut {N : Fm} {env : Env} {st : List AO} (t : Nat) (s k n e sz : Nat) (xs : List (List D)) (h : env t = .h s k 0 n) (hst : st[s]? = some (.row k e sz xs)) (hn : n = xs.length) : Sub N env st (upd env t (.list sz xs)) (st.set s .gone) :=
  Sub.slot t _ fun w0 σ0 σ gh w u hb hu => by
    rw [h] at hu
    obtain ⟨g, hg, hR, A, c, hv⟩ := h_val hb hst hu
    obtain ⟨σ', hf, hrep⟩ := seal_row hb hst hg
    refine ⟨σ', gh, hf, ?_⟩
    obtain ⟨h0, ⟨a1, a2, a3⟩ | ⟨b, m, c2, a1, a2, ⟨a3, a4, _⟩ | a3⟩⟩ := hR
    · rw [a3]; exact hrep
    · omega
    · subst hn
      obtain ⟨A', c', hgv, hc'⟩ := row_val hb hst hg
      rw [a1] at hgv
      injection hgv with e1 e2 e3
      subst e2
      have : u = g := by rw [a3, a1]; simp
      rw [this]; exact hrep

end Go.Proofs.Nw.K
