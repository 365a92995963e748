/- K22: a cell of one's own box, seen otherwise. -/
import Derived.Test.YtjfpnnmagnljnaaNwC8
open Go Go.RowKit
set_option linter.unusedVariables false
set_option linter.unusedSimpArgs false
namespace Go.Proofs.Nw.K

theorem Sub.cell {N : Fm} {env : Env} {st st1 : List AO} {s i : Nat} {bT : TypeId} {cells : List AV} {a a' : AV} (hst : st[s]? = some (.box bT cells)) (hi : cells[i]? = some a) (hst1 : st1[s]? = some (.box bT cells))
    (h : ∀ w0 σ0 σ gh w u, Base w0 σ0 σ gh st w → RepA σ gh st u a → ∃ σ' gh', Fut w0 σ0 σ gh st σ' gh' st1 w ∧ RepA σ' gh' st1 u a' ∧ gh'[s]? = gh[s]?) :
    Sub N env st env (st1.set s (AO.box bT (cells.set i a'))) := by
  intro w0 σ0 I x w ⟨hs, hd, hI, σ, gh, hb, hk, he⟩
  have hlt : s < gh.length := by rw [hb.len]; exact (List.getElem?_eq_some_iff.1 hst).1
  obtain ⟨g, hg⟩ : ∃ g, gh[s]? = some g := ⟨gh[s], List.getElem?_eq_getElem hlt⟩
  obtain ⟨b, vals, e1, e2, e3, e4, e5, e6, e7⟩ := hb.obj s _ _ hst hg
  have hil : i < vals.size := by rw [e4]; exact (List.getElem?_eq_some_iff.1 hi).1
  have hv : vals[i]? = some vals[i] := Array.getElem?_eq_getElem hil
  obtain ⟨σ', gh', hf, hu, hgg⟩ := h w0 σ0 σ gh w _ hb (e5 i _ _ hv hi)
  have hg' : gh'[s]? = some g := by rw [hgg, hg]
  obtain ⟨b', vals', f1, f2, f3, f4, f5, f6, f7⟩ := hf.base.obj s _ _ hst1 hg'
  have hbb : b' = b := by rw [e1] at f1; simpa using f1.symm
  subst hbb
  have hvv : vals' = vals := by rw [e3] at f3; simpa using f3.symm
  subst hvv
  have keep : ∀ v a, RepA σ' gh' st1 v a → RepA σ' gh' (st1.set s (AO.box bT (cells.set i a'))) v a := fun v a h' => h'.set hst1 _ (fun k' e' sz' xs' heq => by cases heq)
  have := hf.base.turn (w' := w) hst1 hg' (by simp) ⟨rfl, rfl, rfl, Nat.le_refl _, fun _ _ _ => rfl⟩ g (.box bT (cells.set i a')) (fun b hb' => .inl hb')
    ⟨b', vals', f1, f2, f3, by simpa using f4, fun j v c hj hc => by
      rw [set_self hg']
      by_cases hij : i = j
      · subst hij
        have hic : i < cells.length := (List.getElem?_eq_some_iff.1 hi).1
        have : c = a' := by simpa [hic] using hc.symm
        subst this
        rw [hv] at hj
        cases hj
        exact keep _ _ hu
      · rw [List.getElem?_set, if_neg hij] at hc
        exact keep _ _ (f5 j v c hj hc), f6, f7⟩ (by rw [set_self hg']; exact keep)
  rw [set_self hg'] at this
  exact ⟨hs, hd, hI, σ', gh', this.base, fun v a ha => this.keep _ _ (hf.keep _ _ (hk v a ha)), fun t => this.keep _ _ (hf.keep _ _ (he t))⟩

/-- nothing, in a cell, seen as a row of one's own -/
theorem Sub.nilsCell {N : Fm} {env : Env} {st : List AO} {s i : Nat} {bT : TypeId} {cells : List AV} (e sz : Nat) (hst : st[s]? = some (.box bT cells)) (hi : cells[i]? = some .nils) :
    Sub N env st env ((st ++ [AO.row 0 e sz []]).set s (.box bT (cells.set i (.h st.length 0 0 0)))) := by
  have hlt : s < st.length := (List.getElem?_eq_some_iff.1 hst).1
  refine Sub.cell hst hi (by rw [List.getElem?_append_left hlt]; exact hst) fun w0 σ0 σ gh w u hb hu => ?_
  have hu := nils_val hu
  have hf := hb.push (w' := w) ⟨rfl, rfl, rfl, Nat.le_refl _, fun _ _ _ => rfl⟩ (.slice none 0 0) (.row 0 e sz []) (fun b h => by simp [blkOf] at h)
    ⟨[], World.ownsRow_nil w _ e sz, fun i x h => by simp at h, fun i j x d h => by simp at h, fun b h => by simp [blkOf] at h, by simp⟩
  refine ⟨σ, _, hf, ⟨.slice none 0 0, _, by rw [← hb.len]; simp, by simp; rfl, fun k' e' sz' xs' heq => ?_⟩, ?_⟩
  · cases heq
    exact ⟨Nat.le_refl _, fun _ => ⟨by simp, .inl ⟨rfl, rfl, hu⟩⟩⟩
  · rw [List.getElem?_append_left (by rw [hb.len]; exact hlt)]

/-- a row of one's own, in a cell, is given out -/
theorem Sub.shutCell {N : Fm} {env : Env} {st : List AO} {s i r k n e sz : Nat} {bT : TypeId} {cells : List AV} {xs : List (List D)} {d : D} (hst : st[s]? = some (.box bT cells)) (hi : cells[i]? = some (.h r k 0 n)) (hr : st[r]? = some (.row k e sz xs)) (hn : n = xs.length)
    (hd : DLe (.one (.list sz xs)) (.one d)) : Sub N env st env ((st.set r .gone).set s (AO.box bT (cells.set i (.d d)))) := by
  have hne : r ≠ s := fun h => by subst h; rw [hst] at hr; cases hr
  refine Sub.cell hst hi (by rw [List.getElem?_set, if_neg hne]; exact hst) fun w0 σ0 σ gh w u hb hu => ?_
  obtain ⟨g, hg, hR, A, c, hv⟩ := h_val hb hr hu
  obtain ⟨σ', hf, hrep⟩ := seal_row hb hr hg
  refine ⟨σ', gh, hf, ?_, rfl⟩
  refine hd σ' u ?_
  obtain ⟨h0, ⟨a1, a2, a3⟩ | ⟨b, m, c2, a1, a2, ⟨a3, a4, _⟩ | a3⟩⟩ := hR
  · rw [a3]; exact hrep
  · omega
  · subst hn
    obtain ⟨A', c', hgv, hc'⟩ := row_val hb hr hg
    rw [a1] at hgv
    injection hgv with e1 e2 e3
    subst e2
    have : u = g := by rw [a3, a1]; simp
    rw [this]; exact hrep

/-- what holds between two pieces of code, said anew -/
theorem WP_seq_cut {P : Program} {N : Fm} {x y : Code} {env : Env} {st : List AO} {Q : Post} {α : Type} (E : α → Env) (S : α → List AO) (h : WP P N x env st (Then (fun env st => ∃ a, Sub N env st (E a) (S a)) Q)) (k : ∀ a, WP P N y (E a) (S a) Q) : WP P N (.seq x y) env st Q :=
  WP_seq (WP_mono h fun e env st q => by
    cases e with
    | normal => obtain ⟨a, hs⟩ := q; exact WP_sub hs (k a)
    | _ => exact q)

end Go.Proofs.Nw.K
