/- Bundle 4: NwK16, NwK17, NwK18, NwK19, NwE1, NwZO1. -/
import Derived.Test.YtblenipidihemaaGreatDoorNwA3
import Derived.Lib.SliceRun
import Derived.ChangeArms
import Derived.WideShapes
import Derived.Test.YtblenipidihemaaGreatDoorProg
section
/- K16: 'vc' is sound. -/
open Go Go.RowKit
set_option linter.unusedVariables false
set_option linter.unusedSimpArgs false
namespace Go.Proofs.Nw.K

section
variable {P : Program} {T : Tab} {N : Fm} (hT : TabOk P T)
include hT

omit hT in
theorem vcArith_sound {op : Op} {E : Operand → AV} {k : IntKind} {r : Int} {st : List AO} {K : KO} (h : vcArith k r st K) (ho : OpS P op E st (.sc (.int k (k.wrap r))) st) : ∃ v st', OpS P op E st v st' ∧ K v st' := by
  unfold vcArith at h
  split at h
  · obtain ⟨⟨h1, h2⟩, h3⟩ := h
    rw [wrap_i64_id _ h1 h2] at ho
    exact ⟨_, _, ho, h3⟩
  · exact ⟨_, _, ho, h⟩

theorem vcBin_sound {op : BinOp} {t ty : TypeId} {x y : Operand} {E : Operand → AV} {st : List AO} {K : KO} (h : vcBin T op t (E x) (E y) st K) : ∃ v st', OpS P (.binOp op t x y ty) E st v st' ∧ K v st' := by
  generalize hx : E x = a at h
  generalize hy : E y = b at h
  unfold vcBin at h
  split at h
  all_goals first
    | exact h.elim
    | skip
  · obtain ⟨rfl, h⟩ := h; exact vcArith_sound h (op_add _ _ _ _ _ _ _ hx hy)
  · obtain ⟨rfl, h⟩ := h; exact vcArith_sound h (op_sub _ _ _ _ _ _ _ hx hy)
  · obtain ⟨rfl, h⟩ := h; exact vcArith_sound h (op_mul _ _ _ _ _ _ _ hx hy)
  · obtain ⟨rfl, h0, h⟩ := h; exact vcArith_sound h (op_quo _ _ _ _ _ _ _ hx hy h0)
  · obtain ⟨rfl, h0, h⟩ := h; exact ⟨_, _, op_rem _ _ _ _ _ _ _ hx hy h0, h⟩
  · obtain ⟨rfl, h⟩ := h; exact ⟨_, _, op_eql _ _ _ _ _ _ _ hx hy, h⟩
  · obtain ⟨rfl, h⟩ := h; exact ⟨_, _, op_neq _ _ _ _ _ _ _ hx hy, h⟩
  · obtain ⟨rfl, h⟩ := h; exact ⟨_, _, op_lss _ _ _ _ _ _ _ hx hy, h⟩
  · obtain ⟨rfl, h⟩ := h; exact ⟨_, _, op_leq _ _ _ _ _ _ _ hx hy, h⟩
  · obtain ⟨rfl, h⟩ := h; exact ⟨_, _, op_gtr _ _ _ _ _ _ _ hx hy, h⟩
  · obtain ⟨rfl, h⟩ := h; exact ⟨_, _, op_geq _ _ _ _ _ _ _ hx hy, h⟩
  · obtain ⟨h0, h⟩ := h; exact ⟨_, _, op_sadd _ _ _ _ _ _ hx hy h0, h⟩
  · exact ⟨_, _, op_seql _ _ _ _ _ _ hx hy, h⟩
  · exact ⟨_, _, op_sneq _ _ _ _ _ _ hx hy, h⟩
  · exact ⟨_, _, op_slss _ _ _ _ _ _ hx hy, h⟩
  · exact ⟨_, _, op_sleq _ _ _ _ _ _ hx hy, h⟩
  · exact ⟨_, _, op_sgtr _ _ _ _ _ _ hx hy, h⟩
  · obtain ⟨h0, h⟩ := h; exact ⟨_, _, op_beql _ _ _ _ _ _ (hT.kbool _ h0) hx hy, h⟩
  · obtain ⟨h0, h⟩ := h; exact ⟨_, _, op_bneq _ _ _ _ _ _ (hT.kbool _ h0) hx hy, h⟩
  · exact ⟨_, _, op_peql_nil _ _ _ _ _ _ (hT.pt _ h.1) hx hy, h.2⟩
  · exact ⟨_, _, op_peql_nils _ _ _ _ (hT.pt _ h.1) hx hy, h.2⟩
  · obtain ⟨⟨rfl, rfl⟩, h1, h2⟩ := h; exact ⟨_, _, op_pneq_same _ _ _ _ _ _ (hT.pt _ h1) hx hy, h2⟩
  · split at h
    · rename_i n a b h1 h2 h3
      obtain ⟨h4, h5, h⟩ := h
      exact ⟨_, _, op_aggeq false _ _ _ _ n _ _ a b (hT.ss _ _ h1) hx hy h2 h3 h4 h5, h⟩
    · exact h.elim
  · split at h
    · rename_i n a b h1 h2 h3
      obtain ⟨h4, h5, h⟩ := h
      exact ⟨_, _, op_aggeq true _ _ _ _ n _ _ a b (hT.ss _ _ h1) hx hy h2 h3 h4 h5, h⟩
    · exact h.elim

theorem vcLoad_sound {t : TypeId} {x : Operand} {E : Operand → AV} {st : List AO} {K : KO} (h : vcLoad T t (E x) st K) : ∃ v st', OpS P (.load t x) E st v st' ∧ K v st' := by
  generalize hx : E x = a at h
  unfold vcLoad at h
  split at h
  · rename_i n cells hl; exact ⟨_, _, op_load_ref _ _ n cells (hT.ld _ _ hl) hx h.1, h.2⟩
  · rename_i n cells hl
    split at h
    · rename_i d hd; exact ⟨_, _, op_load_ref1 _ _ n d cells (hT.ld _ _ hl) hx hd, h⟩
    · exact h.elim
  · rename_i n s off hl
    split at h
    · rename_i cells hst
      split at h
      · rename_i ds hds; exact ⟨_, _, op_load_ptr _ _ n s off ds cells (hT.ld _ _ hl) hx hst hds h.1, h.2⟩
      · exact h.elim
    · exact h.elim
  · rename_i n s off hl
    split at h
    · rename_i cells hst
      split at h
      · rename_i a ha; exact ⟨_, _, op_load_ptr1 _ _ n s off a cells (hT.ld _ _ hl) hx hst ha, h⟩
      · exact h.elim
    · rename_i e ns hst
      obtain ⟨m, hm, h⟩ := h
      exact ⟨_, _, op_load_brow _ _ n s off e m ns (hT.ld _ _ hl) hx hst hm, h⟩
    · exact h.elim
  · rename_i n s v i off hl
    split at h
    · rename_i v' e sz xs hst
      obtain ⟨rfl, cells, h1, h2, h3⟩ := h
      exact ⟨_, _, op_load_ep _ _ n s v i off e sz xs cells (hT.ld _ _ hl) hx hst h1 h2, h3⟩
    · exact h.elim
  · rename_i n s v i off hl
    split at h
    · rename_i v' e sz xs hst
      obtain ⟨rfl, cells, d, h1, h2, h3⟩ := h
      exact ⟨_, _, op_load_ep1 _ _ n s v i off e sz d xs cells (hT.ld _ _ hl) hx hst h1 h2, h3⟩
    · exact h.elim
  · exact h.elim

theorem vcStore_sound {t : TypeId} {x y : Operand} {E : Operand → AV} {st : List AO} {K : KO} (h : vcStore T t (E x) (E y) st K) : ∃ v st', OpS P (.store t x y) E st v st' ∧ K v st' := by
  generalize hx : E x = a at h
  generalize hy : E y = b at h
  unfold vcStore at h
  split at h
  · rename_i n s off ds hl
    split at h
    · rename_i cells hst; exact ⟨_, _, op_store_ptr _ _ _ n s off ds cells (hT.ld _ _ hl) hx hy hst h.1 h.2.1, h.2.2⟩
    · exact h.elim
  · rename_i hl
    split at h
    · rename_i cells hst; exact ⟨_, _, op_store_ptr1 _ _ _ _ _ _ cells (hT.ld _ _ hl) hx hy hst h.1 h.2.1, h.2.2⟩
    · rename_i e ns hst
      obtain ⟨m, rfl, h1, h2⟩ := h
      exact ⟨_, _, op_store_brow _ _ _ _ _ e m ns (hT.ld _ _ hl) hx hy hst h1, h2⟩
    · exact h.elim
  · rename_i n s v i off ds hl
    split at h
    · rename_i v' e sz xs hst
      obtain ⟨rfl, cells, h1, h2, h3, h4⟩ := h
      exact ⟨_, _, op_store_ep _ _ _ n s _ i off e sz ds xs cells (hT.ld _ _ hl) hx hy hst h1 h2 h3, h4⟩
    · exact h.elim
  · rename_i s v i off d hl
    split at h
    · rename_i v' e sz xs hst
      obtain ⟨rfl, cells, h1, h2, h3⟩ := h
      exact ⟨_, _, op_store_ep1 _ _ _ s _ i off e sz d xs cells (hT.ld _ _ hl) hx hy hst h1 h2, h3⟩
    · exact h.elim
  · exact h.elim

omit hT in
/-- an operation ahead of which what is known is seen otherwise -/
theorem OpS.pre {op : Op} {E E1 : Operand → AV} {st st1 st' : List AO} {v : AV} (h : OpS P op E1 st1 v st')
    (hp : ∀ w0 σ0 σ gh (ρ : Operand → Value) w, Base w0 σ0 σ gh st w → (∀ x ∈ op.operands, RepA σ gh st (ρ x) (E x)) → ∃ σ1 gh1, Fut w0 σ0 σ gh st σ1 gh1 st1 w ∧ ∀ x ∈ op.operands, RepA σ1 gh1 st1 (ρ x) (E1 x)) : OpS P op E st v st' := by
  intro o ho w0 σ0 σ gh ρ w hb hρ
  obtain ⟨σ1, gh1, hf, hρ1⟩ := hp w0 σ0 σ gh ρ w hb hρ
  have := h o ho w0 σ0 σ1 gh1 ρ w hf.base hρ1
  unfold Out at this ⊢
  split
  · rename_i u w' e
    rw [e] at this
    obtain ⟨σ', gh', h1, h2⟩ := this
    exact ⟨σ', gh', hf.trans h1, h2⟩
  · rename_i w' e
    rw [e] at this
    obtain ⟨h0, σ', gh', h1⟩ := this
    exact ⟨h0, σ', gh', hf.trans h1⟩
  · rename_i f args w' e
    rw [e] at this
    exact this.mono fun _ _ ⟨u, h0, σ', gh', h1, h2⟩ => ⟨u, h0, σ', gh', hf.trans h1, h2⟩
  · rename_i hn1 hn2 hn3
    split at this
    · rename_i u w' e; exact (hn1 _ _ e).elim
    · rename_i w' e; exact (hn2 _ e).elim
    · rename_i f args w' e; exact (hn3 _ _ _ e).elim
    · exact this

open Classical in
theorem vcStoreG_sound {t : TypeId} {x y : Operand} {E : Operand → AV} {st : List AO} {K : KO} (h : vcStoreG T t (E x) (E y) st K) : ∃ v st', OpS P (.store t x y) E st v st' ∧ K v st' := by
  generalize hy : E y = b at h
  unfold vcStoreG at h
  split at h
  · rename_i s k lo n
    rcases h with h | h
    · rw [← hy] at h; exact vcStore_sound hT h
    · split at h
      · rename_i k' e sz xs hst
        obtain ⟨⟨rfl, rfl, hn⟩, h⟩ := h
        have hxy : x ≠ y := fun e' => by
          subst e'
          rw [hy] at h
          unfold vcStore at h
          split at h <;> first | exact h.elim | (rename_i hx _; cases hx) | (rename_i hx; cases hx) | skip
          all_goals simp_all
        let E1 : Operand → AV := fun z => if z = y then .list sz xs else E z
        have e1 : E1 x = E x := by simp [E1, hxy]
        have e2 : E1 y = .list sz xs := by simp [E1]
        rw [← e1, ← e2] at h
        obtain ⟨v, st', h1, h2⟩ := vcStore_sound hT h
        refine ⟨v, st', h1.pre fun w0 σ0 σ gh ρ w hb hρ => ?_, h2⟩
        have hu := hρ y (by simp [Op.operands])
        rw [hy] at hu
        obtain ⟨g, hg, hR, A, c, hv⟩ := h_val hb hst hu
        obtain ⟨σ', hf, hrep⟩ := seal_row hb hst hg
        have hug : ρ y = g := by
          obtain ⟨h0, ⟨a1, a2, a3⟩ | ⟨b, m, c2, a1, a2, ⟨a3, a4, _⟩ | a3⟩⟩ := hR
          · exact a3
          · omega
          · obtain ⟨A', c', hgv, hc'⟩ := row_val hb hst hg
            rw [a1] at hgv
            injection hgv with e1 e2 e3
            rw [a3, a1, e2, hn]; simp
        refine ⟨σ', gh, hf, fun z hz => ?_⟩
        by_cases hzy : z = y
        · subst hzy
          show RepA σ' gh _ _ (E1 z)
          rw [e2, hug]; exact hrep
        · show RepA σ' gh _ _ (E1 z)
          simp only [E1, if_neg hzy]
          exact hf.keep _ _ (hρ z hz)
      · exact h.elim
  · rw [← hy] at h; exact vcStore_sound hT h

theorem vcIndexAddr_sound {t : TypeId} {x i : Operand} {E : Operand → AV} {st : List AO} {K : KO} (h : vcIndexAddr T t (E x) (E i) st K) : ∃ v st', OpS P (.indexAddr t x i) E st v st' ∧ K v st' := by
  generalize hx : E x = a at h
  generalize hi : E i = b at h
  unfold vcIndexAddr at h
  split at h
  · rename_i e sz α sz' enc z xs k n hl
    obtain ⟨rfl, h1, h2, h3⟩ := h
    exact ⟨_, _, op_indexAddr_tl _ e _ _ _ _ _ _ _ _ _ (hT.el _ _ hl) hx hi h1 h2, h3⟩
  · rename_i e sz sz' xs k n hl
    obtain ⟨rfl, h1, cells, h2, h3⟩ := h
    exact ⟨_, _, op_indexAddr _ e _ _ _ _ _ _ _ (hT.el _ _ hl) hx hi h1 h2, h3⟩
  · rename_i e sz s v lo m k n hl
    split at h
    · rename_i v' e' sz' xs hst
      obtain ⟨rfl, rfl, h1, h2, h3⟩ := h
      exact ⟨_, _, op_indexAddr_h _ e _ _ _ _ _ _ _ _ _ _ _ (hT.el _ _ hl) hx hi hst h1 h2, h3⟩
    · exact h.elim
  · rename_i e s m k n hl
    exact ⟨_, _, op_indexAddr_bs _ e _ _ _ n s m (hT.el _ _ hl) hx hi h.1 h.2.1, h.2.2⟩
  · exact h.elim

omit hT in
theorem vcLo_sound {E : Operand → AV} {o : Option Operand} {K : Nat → Prop} (h : vcLo E o K) : ∃ l, loIs E l o ∧ K l := by
  unfold vcLo at h
  split at h
  · exact ⟨0, rfl, h⟩
  · rename_i x
    split at h
    · rename_i n hn; exact ⟨n.toNat, ⟨n, hn, h.1, rfl⟩, h.2⟩
    · exact h.elim

omit hT in
theorem vcHi_sound {E : Operand → AV} {len : Nat} {o : Option Operand} {K : Nat → Prop} (h : vcHi E len o K) : ∃ l, hiIs E len l o ∧ K l := by
  unfold vcHi at h
  split at h
  · exact ⟨len, rfl, h⟩
  · rename_i x
    split at h
    · rename_i n hn; exact ⟨n.toNat, ⟨n, hn, h.1, rfl⟩, h.2⟩
    · exact h.elim

theorem vcSlice_sound {t : TypeId} {x : Operand} {lo hi : Option Operand} {E : Operand → AV} {st : List AO} {K : KO} (h : vcSlice T t (E x) lo hi E st K) : ∃ v st', OpS P (.slice t x lo hi none) E st v st' ∧ K v st' := by
  generalize hx : E x = a at h
  unfold vcSlice at h
  split at h
  · rename_i s
    obtain ⟨h0, h⟩ := h
    obtain ⟨l, hl, h⟩ := vcLo_sound h
    obtain ⟨hh', hh, h1, h2, h3⟩ := vcHi_sound h
    refine ⟨_, _, op_slice_str t x lo hi l hh' s (hT.kstr _ h0) hx ?_ ?_ h1 h2, h3⟩
    · cases lo <;> exact hl
    · cases hi <;> exact hh
  · rename_i α sz enc z xs
    split at h
    · rename_i e sz' hl'
      obtain ⟨rfl, h⟩ := h
      obtain ⟨l, hl, h⟩ := vcLo_sound h
      obtain ⟨hh', hh, h1, h2, h3⟩ := vcHi_sound h
      exact ⟨_, _, op_slice_tl t e x lo hi l hh' α _ enc z xs (hT.el _ _ hl') hx hl hh h1 h2, h3⟩
    · exact h.elim
  · rename_i sz xs
    split at h
    · rename_i e sz' hl'
      obtain ⟨rfl, h⟩ := h
      obtain ⟨l, hl, h⟩ := vcLo_sound h
      obtain ⟨hh', hh, h1, h2, h3⟩ := vcHi_sound h
      exact ⟨_, _, op_slice_list t e _ x lo hi l hh' xs (hT.el _ _ hl') hx hl hh h1 h2, h3⟩
    · exact h.elim
  · rename_i s k off n
    split at h
    · rename_i e sz' k' e' sz xs hl' hst
      obtain ⟨rfl, rfl, h⟩ := h
      obtain ⟨l, hl, h⟩ := vcLo_sound h
      obtain ⟨hh', hh, h1, h2, h3⟩ := vcHi_sound h
      exact ⟨_, _, op_slice_h t e _ x lo hi l hh' s k off n e' xs (hT.el _ _ hl') hx hst hl hh h1 h2, h3⟩
    · exact h.elim
  · exact h.elim

end

theorem srcRows_sound {st : List AO} {sz : Nat} {a : AV} {K : List (List D) → Prop} (h : srcRows st sz a K) : ∃ ys, Src st (unT a) sz ys ∧ K ys := by
  unfold srcRows at h
  split at h
  · obtain ⟨rfl, h⟩ := h; exact ⟨_, .list, h⟩
  · obtain ⟨rfl, h⟩ := h; exact ⟨_, .list, h⟩
  · exact ⟨_, .nils, h⟩
  · split at h
    · rename_i hst; obtain ⟨rfl, rfl, h⟩ := h; exact ⟨_, .h hst rfl, h⟩
    · exact h.elim
  · exact h.elim

theorem unT_h {a : AV} {s k lo n : Nat} (h : a = .h s k lo n) : unT a = .h s k lo n := by subst h; rfl
theorem unT_nils {a : AV} (h : a = .nils) : unT a = .nils := by subst h; rfl

section
variable {P : Program} {T : Tab} {N : Fm} (hT : TabOk P T)
include hT

theorem vcAppend_sound {t : TypeId} {x y : Operand} {E : Operand → AV} {st : List AO} {K : KO} (h : vcAppend T t (E x) (E y) st K) :
    ∃ v st', OpS P (.call { callee := .builtin .append, args := #[x, y], argTypes := #[t, t] }) E st v st' ∧ K v st' := by
  generalize hx : E x = a at h
  unfold vcAppend at h
  split at h
  · rename_i e sz by_ hl
    obtain ⟨ys, h1, h2, h3, h4⟩ := srcRows_sound h
    exact ⟨_, _, OpS.unT (op_append_nils t e sz by_ x y ys (hT.ap _ _ hl) (unT_nils hx) h1 h2 h3), h4⟩
  · rename_i e sz by_ sz' xs hl
    split at h
    · rename_i hy
      obtain ⟨rfl, h⟩ := h
      exact ⟨_, _, op_append_full0 t e _ by_ x y xs (hT.ap _ _ hl) hx (by rw [hy]; exact .nils), h⟩
    obtain ⟨rfl, hne, h⟩ := h
    obtain ⟨ys, h1, h2, h3, h4, h5⟩ := srcRows_sound h
    exact ⟨_, _, OpS.unT (op_append_full t e _ by_ x y xs ys (hT.ap _ _ hl) (by show unT (E x) = _; rw [hx]; rfl) h1 h2 hne h3 h4), h5⟩
  · rename_i e sz by_ s k lo n hl
    split at h
    · rename_i k' e' sz' xs hst
      obtain ⟨⟨rfl, rfl, rfl, rfl⟩, h⟩ := h
      obtain ⟨ys, h1, h2, h3, h4⟩ := srcRows_sound h
      exact ⟨_, _, OpS.unT (op_append_h t _ _ by_ x y s k n xs ys (hT.ap _ _ hl) (unT_h hx) hst h1 h2 h3), h4⟩
    · exact h.elim
  · exact h.elim

theorem vcAppendS_sound {t t' : TypeId} {x y : Operand} {E : Operand → AV} {st : List AO} {K : KO} {s : ByteArray} (hk : T.kd t' = .str) (hy : E y = .str s) (h : vcAppendS T t (E x) s st K) :
    ∃ v st', OpS P (.call { callee := .builtin .append, args := #[x, y], argTypes := #[t, t'] }) E st v st' ∧ K v st' := by
  generalize hx : E x = a at h
  unfold vcAppendS at h
  split at h
  · rename_i e hl; exact ⟨_, _, op_appendS_nils t t' e x y s (hT.bb _ _ hl) (hT.kstr _ hk) hx hy h.1, h.2⟩
  · rename_i e r k lo n hl
    split at h
    · rename_i k' e' sz xs hst
      obtain ⟨⟨rfl, rfl, rfl, rfl⟩, h1, h2⟩ := h
      exact ⟨_, _, op_appendS_h t t' _ x y s r k n xs (hT.bb _ _ hl) (hT.kstr _ hk) hx hst hy h1, h2⟩
    · exact h.elim
  · exact h.elim

theorem vcLen_sound {t : TypeId} {x : Operand} {E : Operand → AV} {st : List AO} {K : KO} (h : vcLen T t (E x) st K) :
    ∃ v st', OpS P (.call { callee := .builtin .len, args := #[x], argTypes := #[t] }) E st v st' ∧ K v st' := by
  generalize hx : E x = a at h
  unfold vcLen at h
  split at h
  · rename_i e sz xs hk; exact ⟨_, _, op_len t x _ (by rw [hx]; exact .list (hT.kslice _ _ hk)), h⟩
  · rename_i e α sz enc z xs hk
    refine ⟨_, _, OpS.unT (op_len t x xs.length ?_), h⟩
    have : unT (E x) = .list sz (xs.map enc) := by rw [hx]; rfl
    simp only [this]
    have := LenOf.list (P := P) (st := st) (t := t) (sz := sz) (xs := xs.map enc) (hT.kslice _ _ hk)
    simpa using this
  · rename_i e hk; exact ⟨_, _, op_len t x 0 (by rw [hx]; exact .nils (hT.kslice _ _ hk)), h⟩
  · rename_i e s n hk; exact ⟨_, _, op_len_bs t e x s n (hT.kslice _ _ hk) hx, h⟩
  · rename_i e s k lo n hk
    split at h
    · rename_i k' e' sz xs hst; obtain ⟨rfl, h⟩ := h; exact ⟨_, _, op_len t x n (by rw [hx]; exact .h (hT.kslice _ _ hk) hst), h⟩
    · exact h.elim
  · rename_i s hk; exact ⟨_, _, op_len t x _ (by rw [hx]; exact .str (hT.kstr _ hk)), h⟩
  · exact h.elim

omit hT in
theorem sealK_sound : ∀ {avs : List AV} {st : List AO} {K : List AO → List DV → Prop}, sealK st avs K → ∃ st' ds, K st' ds ∧ ∀ w0 σ0 σ gh w (vs : List Value), Base w0 σ0 σ gh st w → vs.length = avs.length →
    (∀ (i : Nat) v a, vs[i]? = some v → avs[i]? = some a → RepA σ gh st v a) → ∃ σ', Fut w0 σ0 σ gh st σ' gh st' w ∧ RepVs σ' vs ds
  | [], st, K, h => ⟨st, [], h, fun w0 σ0 σ gh w vs hb hl _ => ⟨σ, .refl hb, by simpa using hl, fun i v d _ hd => by simp at hd⟩⟩
  | a :: r, st, K, h => by
    cases a with
    | v d =>
      have h : sealK st r (fun st' ds => K st' (d :: ds)) := h
      obtain ⟨st', ds, hK, hs⟩ := sealK_sound h
      refine ⟨st', d :: ds, hK, fun w0 σ0 σ gh w vs hb hl hr => ?_⟩
      cases vs with
      | nil => simp at hl
      | cons v vs =>
        obtain ⟨σ', hf, hv⟩ := hs w0 σ0 σ gh w vs hb (by simpa using hl) (fun i v a hv ha => hr (i + 1) v a (by simpa using hv) (by simpa using ha))
        have h0 := hf.keep _ _ (hr 0 v _ rfl rfl)
        refine ⟨σ', hf, by simp [hv.1], fun i u d' hu hd => ?_⟩
        cases i with
        | zero => simp at hu hd; subst hu hd; exact h0
        | succ i => simp at hu hd; exact hv.2 i u d' hu hd
    | h s k lo n =>
      unfold sealK at h
      split at h
      · rename_i k' e sz xs hst
        obtain ⟨⟨rfl, rfl, hn⟩, h⟩ := h
        obtain ⟨st', ds, hK, hs⟩ := sealK_sound h
        refine ⟨st', .one (.list sz xs) :: ds, hK, fun w0 σ0 σ gh w vs hb hl hr => ?_⟩
        cases vs with
        | nil => simp at hl
        | cons v vs =>
          have hh := hr 0 v _ rfl rfl
          obtain ⟨g, hg, hR, A, c, hv⟩ := h_val hb hst hh
          obtain ⟨σ1, hf1, hrep⟩ := seal_row hb hst hg
          have hvg : v = g := by
            obtain ⟨h0, ⟨a1, a2, a3⟩ | ⟨b, m, c2, a1, a2, ⟨a3, a4, _⟩ | a3⟩⟩ := hR
            · exact a3
            · omega
            · obtain ⟨A', c', hgv, hc'⟩ := row_val hb hst hg
              rw [a1] at hgv
              injection hgv with e1 e2 e3
              subst hn e2
              rw [a3, a1]; simp
          subst hvg
          obtain ⟨σ', hf, hv'⟩ := hs w0 σ0 σ1 gh w vs hf1.base (by simpa using hl) (fun i v a hv ha => hf1.keep _ _ (hr (i + 1) v a (by simpa using hv) (by simpa using ha)))
          have h0 : RepA σ' gh st' v (.list sz xs) := hf.keep v (.list sz xs) hrep
          refine ⟨σ', hf1.trans hf, by simp [hv'.1], fun i u d' hu hd => ?_⟩
          cases i with
          | zero => simp at hu hd; subst hu hd; exact h0
          | succ i => simp at hu hd; exact hv'.2 i u d' hu hd
      · exact h.elim
    | _ => exact (h : False).elim

omit hT in
theorem scDV_rep {σ σ' : Sig} {v : Value} {d : DV} (h : scDV d = true) (hr : RepV σ v d) : RepV σ' v d := by
  unfold scDV at h
  split at h
  · have hr : Rep σ v (.sc _) := hr
    cases hr with
    | sc h => exact Rep.sc h
  · cases h

theorem vcCall_sound {x : Operand} {args : Array Operand} {ts : Array TypeId} {E : Operand → AV} {st : List AO} {K : KO} (h : vcCall P T (E x) (args.toList.map E) st K) :
    ∃ v st', OpS P (.call { callee := .value x, args := args, argTypes := ts }) E st v st' ∧ K v st' := by
  generalize hx : E x = a at h
  unfold vcCall at h
  split at h
  · rename_i f
    split at h
    · rename_i hei
      split at h
      · rename_i a ha
        obtain ⟨l⟩ := args
        match l, ha with
        | [y], ha =>
          have ha : E y = a := by simpa using ha
          subst ha
          exact ⟨_, _, op_call_id x y f ts hx (hT.ei _ hei), h⟩
      · exact h.elim
    obtain ⟨hcl, h⟩ := h
    have hc := hT.cl _ hcl
    split at h
    · rename_i ds hds
      rcases h with ⟨ds', res, h1, h2, h3⟩ | ⟨e, sz, xs, h1, h2⟩
      · exact ⟨_, _, op_call x f args ts ds res hx hc hds (h1.le h2), h3⟩
      · exact ⟨_, _, op_callgive x f args ts ds hx hc hds h1, h2⟩
    · have hrun : ∀ (o : Oper), o.op = .call { callee := .value x, args := args, argTypes := ts } → ∀ {w0 σ0 σ gh} {ρ : Operand → Value} {w}, Base w0 σ0 σ gh st w → (∀ y ∈ (Op.call { callee := .value x, args := args, argTypes := ts }).operands, RepA σ gh st (ρ y) (E y)) →
          (execOp ρ o).run P w = .ok (.enter f (args.toList.map ρ).toArray) w ∧ (args.toList.map ρ).length = (args.toList.map E).length ∧ ∀ (i : Nat) v a, (args.toList.map ρ)[i]? = some v → (args.toList.map E)[i]? = some a → RepA σ gh st v a := by
        intro o ho w0 σ0 σ gh ρ w hb hρ
        have hf := hρ x (by simp [Op.operands, Call.operands])
        rw [hx] at hf
        have hf := RepA_sc hf
        refine ⟨?_, by simp, fun i v a hv ha => ?_⟩
        · have he : (args.toList.map ρ).toArray = args.map ρ := by apply Array.ext'; simp
          rw [he]
          simp only [execOp, ho, resolve, hf, Deferred.ofValue, Sem.run_bind, Sem.run_pure, Result.andThen_ok, invoke]
          have e1 : (⟨[]⟩ ++ Array.map ρ args ++ ⟨[]⟩ : Array Value) = Array.map ρ args := by simp
          rw [e1]
          exact callFunc_run hc (args.map ρ) w
        · simp only [List.getElem?_map, Option.map_eq_some_iff] at hv ha
          obtain ⟨y, hy, rfl⟩ := hv
          obtain ⟨z, hz, rfl⟩ := ha
          rw [hy] at hz
          cases hz
          refine hρ y ?_
          have hm : y ∈ args := by rw [← Array.mem_toList_iff]; exact List.mem_of_getElem? hy
          simp only [Op.operands, Call.operands]
          exact Array.mem_append.2 (.inr hm)
      rcases h with ⟨res, st', h1, h2⟩ | h | h
      · exact ⟨_, _, op_calleff x f args ts _ res st' hx hc rfl h1, h2⟩
      · obtain ⟨st', ds, ⟨ds', res, h1, h2, h3⟩, hs⟩ := sealK_sound h
        refine ⟨_, _, fun o ho w0 σ0 σ gh ρ w hb hρ => ?_, h3⟩
        obtain ⟨r1, r2, r3⟩ := hrun o ho hb hρ
        rw [r1]
        obtain ⟨σ1, hf, hv⟩ := hs w0 σ0 σ gh w _ hb r2 r3
        refine Calls.mono (h1 w σ1 _ hf.base.sl (h2.rep hv)) fun e w' ⟨u, σ', e1, c1, c2, c3, c4⟩ => ?_
        exact ⟨u, e1, σ', gh, hf.trans (Fut.call hf.base c1 c2 c3), resAV_rep c4⟩
      · obtain ⟨st', ds, ⟨ds', res, h1, h2, h4, h3⟩, hs⟩ := sealK_sound h
        refine ⟨_, st, fun o ho w0 σ0 σ gh ρ w hb hρ => ?_, h3⟩
        obtain ⟨r1, r2, r3⟩ := hrun o ho hb hρ
        rw [r1]
        obtain ⟨σ1, hf, hv⟩ := hs w0 σ0 σ gh w _ hb r2 r3
        refine Calls.mono (h1 w σ1 _ hf.base.sl (h2.rep hv)) fun e w' ⟨u, σ', e1, c1, c2, c3, c4⟩ => ?_
        refine ⟨u, e1, σ, gh, ⟨hb.grown ⟨c1.os, c1.tape, c1.output, c1.size, fun k hk _ => c1.block k hk⟩ c1.dr, fun _ _ h => h⟩, ?_⟩
        have hall := List.all_eq_true.1 h4
        refine resAV_rep ?_
        unfold RepRes at c4 ⊢
        split at c4
        · exact scDV_rep (hall _ (by simp)) c4
        · obtain ⟨us, e2, e3⟩ := c4
          exact ⟨us, e2, e3.1, fun i v d hv hd => scDV_rep (hall d (List.mem_of_getElem? hd)) (e3.2 i v d hv hd)⟩
  · exact h.elim

theorem vcConv_sound {s d : TypeId} {x : Operand} {E : Operand → AV} {st : List AO} {K : KO} (h : vcConv T s d (E x) st K) : ∃ v st', OpS P (.convert s d x) E st v st' ∧ K v st' := by
  generalize hx : E x = a at h
  unfold vcConv at h
  split at h
  · rename_i i h1 h2
    split at h
    · rename_i bT cells b n hst hcv
      obtain ⟨⟨rfl, rfl⟩, h⟩ := h
      exact ⟨_, _, op_convert_ptr s d x i _ cells hx hst (hT.cv _ _ _ _ hcv), h⟩
    · exact h.elim
  · rename_i k' k k2 n h1 h2
    obtain ⟨rfl, h⟩ := h
    exact ⟨_, _, op_convert_int s d x k _ n _ (hT.kint _ _ h1) (hT.kint _ _ h2) hx rfl, h⟩
  · rename_i e s' h1 h2
    obtain ⟨h0, h⟩ := h
    exact ⟨_, _, op_str2bytes s d e x s' (hT.kstr _ h1) (hT.kslice _ _ h2) (hT.kint _ _ h0) hx, h⟩
  · rename_i e r n h1 h2
    obtain ⟨h0, h⟩ := h
    split at h
    · rename_i e' ns hst
      exact ⟨_, _, op_bytes2str_bs s d e x r n e' ns (hT.kslice _ _ h1) (hT.kint _ _ h0) (hT.kstr _ h2) hx hst h.1, h.2⟩
    · exact h.elim
  · rename_i e h1 h2 _
    obtain ⟨h0, h⟩ := h
    obtain ⟨ys, h3, ns, rfl, h4⟩ := srcRows_sound h
    exact ⟨_, _, OpS.unT (op_bytesToString s d e x ns (hT.kslice _ _ h1) (hT.kint _ _ h0) (hT.kstr _ h2) (by rw [hx]; exact h3)), h4⟩
  · exact h.elim

theorem vcOp_sound {op : Op} {E : Operand → AV} {st : List AO} {K : KO} (h : vcOp P T op E st K) : ∃ v st', OpS P op E st v st' ∧ K v st' := by
  unfold vcOp at h
  split at h
  · exact ⟨_, _, op_move _, force_out h⟩
  · exact ⟨_, _, op_assign _, force_out h⟩
  · split at h
    · rename_i b hc
      cases b
      · exact ⟨_, _, op_pick _ _ _ false hc, force_out (h.2 rfl)⟩
      · exact ⟨_, _, op_pick _ _ _ true hc, force_out (h.1 rfl)⟩
    · exact h.elim
  · exact vcBin_sound hT h
  · split at h
    · rename_i b hx; exact ⟨_, _, op_not _ _ b hx, h⟩
    · exact h.elim
  · split at h
    · rename_i k b hx; exact vcArith_sound h (op_neg _ _ k b hx)
    · exact h.elim
  · exact vcConv_sound hT h
  · split at h
    · rename_i cells hz; exact ⟨_, _, op_alloc _ cells (hT.zb _ _ hz), h⟩
    · exact h.elim
  · split at h
    · rename_i ds hx; exact ⟨_, _, op_box_agg _ _ ds hx, h⟩
    · exact ⟨_, _, op_box1 _ _ _ rfl h.1, h.2⟩
  · split at h
    · rename_i zs ps hz hp
      split at h
      · rename_i ds hf; exact ⟨_, _, op_build _ _ zs ds ps (hT.zd _ _ hz) (hT.bt _ _ hp) hf, h⟩
      · exact h.elim
    · exact h.elim
  · split at h
    · rename_i e sz hl; exact ⟨_, _, op_buildSlice0 _ e sz (hT.el _ _ hl), h⟩
    · exact h.elim
  · split at h
    · rename_i e sz hl
      split at h
      · rename_i zs hz
        split at h
        · rename_i ds hf
          obtain ⟨h1, h2, h3, h4, h5⟩ := h
          have hop := op_buildSlice (E := E) (st := st) _ e sz _ _ zs ds (hT.el _ _ hl) (hT.zd _ _ hz) h1 h2 h3 hf h4
          rcases h5 with h5 | h5 | h5
          · exact ⟨_, _, hop.weaken (v' := .list sz _) (fun σ gh u hu => full_list hu) (fun hj => by cases hj), h5⟩
          · exact ⟨_, _, hop, h5⟩
          · exact ⟨_, _, op_buildSliceH (E := E) (st := st) _ e sz _ _ zs ds (hT.el _ _ hl) (hT.zd _ _ hz) h1 h2 h3 hf h4, h5⟩
        · exact h.elim
      · exact h.elim
    · exact h.elim
  · exact vcLoad_sound hT h
  · exact vcStoreG_sound hT h
  · split at h
    · rename_i k i off hf hx; exact ⟨_, _, op_fieldAddr_ptr _ _ _ i off k (hT.fo _ _ _ hf) hx, h⟩
    · rename_i k cells hf hx; exact ⟨_, _, op_fieldAddr_ref _ _ _ k cells (hT.fo _ _ _ hf) hx, h⟩
    · rename_i k i v j off hf hx
      split at h
      · rename_i v' e sz xs hst
        obtain ⟨rfl, h⟩ := h
        exact ⟨_, _, op_fieldAddr_ep _ _ _ i v j off k (hT.fo _ _ _ hf) hx _ hst ⟨e, sz, xs, rfl⟩, h⟩
      · exact h.elim
    · exact h.elim
  · exact vcIndexAddr_sound hT h
  · split at h
    · rename_i s k n hx hi; exact ⟨_, _, op_index_str _ _ _ k n s (hT.kstr _ h.1) hx hi h.2.1 h.2.2.1, h.2.2.2⟩
    · exact h.elim
  · exact vcSlice_sound hT h
  · split at h
    · rename_i vs hx
      split at h
      · rename_i d hd; exact ⟨_, _, op_extract _ _ vs d hx hd, h⟩
      · exact h.elim
    · exact h.elim
  · exact ⟨_, _, op_makeFunc _, h⟩
  · exact vcCall_sound hT h
  · exact vcLen_sound hT h
  · split at h
    · rename_i k a k' b hx hy
      obtain ⟨rfl, h⟩ := h
      exact ⟨_, _, op_max _ _ _ _ a b hx hy, h⟩
    · exact h.elim
  · split at h
    · rename_i s hy; exact vcAppendS_sound hT h.1 hy h.2
    · obtain ⟨rfl, h⟩ := h; exact vcAppend_sound hT h
  · split at h
    · rename_i s off hx; exact ⟨_, _, op_nilCheck_ptr _ _ _ hx, h⟩
    · rename_i cells hx; exact ⟨_, _, op_nilCheck_ref _ _ hx, h⟩
    · rename_i s v i off hx
      split at h
      · rename_i v' e sz xs hst
        obtain ⟨rfl, h⟩ := h
        exact ⟨_, _, op_nilCheck_ep _ s _ i off e sz xs hx hst, h⟩
      · exact h.elim
    · exact h.elim
  · exact ⟨_, _, op_makeMap _, h⟩
  · split at h
    · rename_i s k hx hi
      split at h
      · rename_i es hst
        obtain ⟨zd, l, d, h1, rfl, rfl, h2⟩ := h
        exact ⟨_, _, op_lookup _ _ _ s zd l k h1 hx hst hi, h2⟩
      · exact h.elim
    · exact h.elim
  · split at h
    · rename_i s k d hx hi hy
      split at h
      · rename_i es hst
        obtain ⟨zd, l, h1, rfl, h2⟩ := h
        exact ⟨_, _, op_mapUpdate _ _ _ _ s zd d l k h1 hx hst hi hy, h2⟩
      · exact h.elim
    · exact h.elim
  · exact h.elim

omit hT in
theorem nil_of_list {σ : Sig} {v : Value} {sz : Nat} {xs : List (List D)} (h : Rep σ v (.list sz xs)) : ∃ a n c, v = .slice a n c ∧ (a = none → xs = []) := by
  cases h with
  | nil _ => exact ⟨_, _, _, rfl, fun _ => rfl⟩
  | list => exact ⟨_, _, _, rfl, fun h => by cases h⟩

omit hT in
theorem op_eql_nil {t e ty : TypeId} {x : Operand} {E : Operand → AV} {st : List AO} {K : KO} {sz : Nat} {xs : List (List D)} (hu : P.underlying t = some (.slice e)) (hy : E (.const (.slice none 0 0)) = .nils) (hx : ∀ σ gh u, RepA σ gh st u (E x) → Rep σ u (.list sz xs))
    (h1 : xs = [] → K (.bool true) st) (h2 : K (.bool false) st) : OpN P (.binOp .eql t x (.const (.slice none 0 0)) ty) E st K := by
  intro o ho w0 σ0 σ gh ρ w hb hρ
  have hv := hx _ _ _ (hρ x (by simp [Op.operands]))
  obtain ⟨a, n, c, hv, hn⟩ := nil_of_list hv
  have hc := hρ (.const (.slice none 0 0)) (by simp [Op.operands])
  rw [hy] at hc
  have hc := nils_val hc
  have hg : eqGuard .eql t x (.const (.slice none 0 0)) (.slice a n c) (.slice none 0 0) = pure () := rfl
  have hrun : (execOp ρ o).run P w = .ok (.value (.bool a.isNone)) w := by
    simp [execOp, ho, hv, hc, hg, Lib.run_eql_slice_nil w t e a n c 0 0 hu]
  rw [hrun]
  cases a with
  | none => exact ⟨.bool true, st, h1 (hn rfl), σ, gh, .refl hb, RepA_of_sc rfl⟩
  | some a => exact ⟨.bool false, st, h2, σ, gh, .refl hb, RepA_of_sc rfl⟩

omit hT in
theorem OpN.mono {op : Op} {E : Operand → AV} {st : List AO} {V W : AV → List AO → Prop} (h : OpN P op E st V) (k : ∀ v st', V v st' → W v st') : OpN P op E st W :=
  fun o ho w0 σ0 σ gh ρ w hb hρ => let ⟨v, st', h1, h2⟩ := h o ho w0 σ0 σ gh ρ w hb hρ; ⟨v, st', k _ _ h1, h2⟩

theorem vcOp2_sound {op : Op} {env : Env} {st : List AO} {K : KO} (h : vcOp2 P T op (evalE env) st K) : OpN P op (evalE env) st K := by
  unfold vcOp2 at h
  split at h
  · split at h
    · rename_i α sz enc z xs hk hx
      refine op_eql_nil (sz := sz) (xs := xs.map enc) (hT.kslice _ _ hk) rfl (fun σ gh u hu => ?_) (fun e => h.1 (List.map_eq_nil_iff.1 e)) h.2
      rw [hx] at hu
      cases (hu : Rep σ u (.tl _ _ _ _ _)) with
      | tl hu => exact hu
    · rename_i hk hx
      exact op_eql_nil (hT.kslice _ _ hk) rfl (fun σ gh u hu => by rw [hx] at hu; exact hu) h.1 h.2
    · rename_i hk hx
      refine OpS.n (op_pure fun o ho w0 σ0 σ gh ρ w hb hρ => ?_) h
      have hv := hρ _ (by simp [Op.operands]; exact .inl rfl)
      have hc := hρ (.const (.slice none 0 0)) (by simp [Op.operands])
      rw [hx] at hv
      have hv := nils_val hv
      have hc := nils_val (show RepA σ gh st _ .nils from hc)
      have hg : ∀ t x y, eqGuard .eql t x y (.slice none 0 0) (.slice none 0 0) = pure () := fun _ _ _ => rfl
      have hr := Lib.run_eql_slice_nil w _ _ none 0 0 0 0 (hT.kslice _ _ hk)
      exact ⟨.bool true, by simp [execOp, ho, hv, hc, hg, hr], RepA_of_sc rfl⟩
    · exact h.elim
  · obtain ⟨v, st', h1, h2⟩ := vcOp_sound hT h
    exact h1.n h2

def dstOk (N : Fm) (l : List Oper) : Prop := ∀ o ∈ l, ∀ d, o.dst = some d → d < N.n

theorem vcL_sound {ops : List Oper} : ∀ {l : List Oper} {env : Env} {st : List AO} {K : Env → List AO → Prop}, dstOk N l → vcL P T N ops l env st K → WPL P N ops.toArray l env st K
  | [], env, st, K, _, h => WPL_nil h
  | o :: rest, env, st, K, hd, h => by
    have hd0 : ∀ d, o.dst = some d → d < N.n := hd o (by simp)
    have hdr : dstOk N rest := fun o' ho' => hd o' (by simp [ho'])
    obtain ⟨dst, op, ty, pos, after, guard⟩ := o
    unfold vcL at h
    split at h
    · rename_i hg
      simp only at hg
      subst hg
      exact WPL_opN hd0 ((vcOp2_sound hT h).mono fun v st' h2 => vcL_sound hdr h2)
    · rename_i j want hg
      simp only at hg
      subst hg
      split at h
      · rename_i oj hj
        split at h
        · rename_i d hdj
          split at h
          · rename_i b hb
            obtain ⟨hdN, h1, h2⟩ := h
            refine WPL_guard (b := b) (by simpa using hj) hdj hdN hb (fun e => ?_) (fun e => ⟨hd0, vcL_sound hdr (h2 e)⟩)
            obtain ⟨v, st', h3, h4⟩ := vcOp_sound hT (h1 e)
            exact ⟨v, st', h3, hd0, vcL_sound hdr h4⟩
          · rename_i hb
            exact WPL_guard0 (by simpa using hj) hdj h.1 hb hd0 (vcL_sound hdr h.2)
          · exact h.elim
        · exact h.elim
      · exact h.elim

theorem vcQ_sound {ops : List Oper} {st : List AO} : ∀ {l : List Oper} {env : Env} {K : Env → Prop}, dstOk N l → vcQ P T N ops st l env K → WQ P N ops.toArray st K l env
  | [], env, K, _, h => WQ_nil h
  | o :: rest, env, K, hd, h => by
    have hd0 : ∀ d, o.dst = some d → d < N.n := hd o (by simp)
    have hdr : dstOk N rest := fun o' ho' => hd o' (by simp [ho'])
    obtain ⟨dst, op, ty, pos, after, guard⟩ := o
    unfold vcQ at h
    split at h
    · rename_i hg
      simp only at hg
      subst hg
      obtain ⟨v, st', h1, h2, h3⟩ := vcOp_sound hT h
      subst h2
      exact WQ_op h1 hd0 (vcQ_sound hdr h3)
    · rename_i j want hg
      simp only at hg
      subst hg
      split at h
      · rename_i oj hj
        split at h
        · rename_i d hdj
          split at h
          · rename_i b hb
            obtain ⟨hdN, h1, h2⟩ := h
            refine WQ_guard (b := b) (by simpa using hj) hdj hdN hb hd0 (fun e => ?_) (fun e => vcQ_sound hdr (h2 e))
            obtain ⟨v, st', h3, h4, h5⟩ := vcOp_sound hT (h1 e)
            subst h4
            exact ⟨v, h3, vcQ_sound hdr h5⟩
          · exact h.elim
        · exact h.elim
      · exact h.elim

theorem vc_sound : ∀ {c : Code} {env : Env} {st : List AO} {Q : Post}, codeOk N c = true → vc P T N c env st Q → WP P N c env st Q := by
  intro c
  induction c with
  | skip => intro env st Q _ h; exact WP_skip h
  | label l => intro env st Q _ h; exact WP_label h
  | exit l => intro env st Q _ h; exact WP_exit h
  | goto l => intro env st Q _ h; exact WP_goto h
  | ret => intro env st Q _ h; exact WP_ret h
  | seq x y ihx ihy =>
    intro env st Q hok h
    simp only [codeOk, Bool.and_eq_true] at hok
    cases x with
    | label l => exact h
    | _ =>
      refine WP_seq (WP_mono (ihx hok.1 h) fun e env st hq => ?_)
      cases e with
      | normal => exact ihy hok.2 hq
      | _ => exact hq
  | cond c x y ihx ihy =>
    intro env st Q hok h
    simp only [codeOk, Bool.and_eq_true] at hok
    unfold vc at h
    split at h
    · rename_i b hb; exact WP_cond hb (fun e => ihx hok.1 (h.1 e)) (fun e => ihy hok.2 (h.2 e))
    · exact h.elim
  | block id c ih => intro env st Q hok h; exact WP_block (ih hok h)
  | region id ops draw =>
    intro env st Q hok h
    simp only [codeOk, Bool.and_eq_true, Array.all_eq_true_iff_forall_mem] at hok
    have hd : dstOk N ops.toList := fun o ho d hdo => by
      have := hok.1 o (by simpa using ho)
      rw [hdo] at this
      simpa using this
    obtain ⟨l⟩ := ops
    cases draw with
    | false => exact WP_region (vcL_sound hT hd h)
    | true => exact WP_draw hT.mixed (by simpa using hok.2) (vcQ_sound hT hd h)
  | _ => intro env st Q _ h; exact h

end
end Go.Proofs.Nw.K
end
section
/- K17: a function's contract out of its 'vc'; loops and scopes. -/
open Go Go.RowKit
set_option linter.unusedVariables false
set_option linter.unusedSimpArgs false
namespace Go.Proofs.Nw.K

/-- what is handed back; rows of one's own are given out -/
def retK (T : Tab) : List ResultVar → Env → List AO → (List DV → Prop) → Prop
  | [], env, st, K => K []
  | .tmp t :: r, env, st, K => match env t with
    | .v d => retK T r env st fun ds => K (d :: ds)
    | .h s k lo n => match st[s]? with
      | some (.row k' e sz xs) => (k = k' ∧ lo = 0 ∧ n = xs.length) ∧ retK T r (upd env t (.list sz xs)) (st.set s .gone) fun ds => K (.one (.list sz xs) :: ds)
      | _ => False
    | _ => False
  | .cell a t :: r, env, st, K => match env a, T.ld t with
    | .ptr s off, some (n, true) => match st[s]? with
      | some (.box bT cells) => match toDs ((cells.drop off).take n) with
        | some cs => cs.length = n ∧ retK T r env st fun ds => K (.agg cs :: ds)
        | none => False
      | _ => False
    | .ptr s off, some (_, false) => match st[s]? with
      | some (.box bT cells) => match cells[off]? with
        | some (.v (.one d)) => retK T r env st fun ds => K (.one d :: ds)
        | _ => False
      | _ => False
    | _, _ => False

theorem retK_sound {P : Program} {T : Tab} {N : Fm} (hT : TabOk P T) : ∀ {rs : List ResultVar} {env : Env} {st : List AO} {K : List DV → Prop}, retK T rs env st K →
    ∃ env' st' ds, Sub N env st env' st' ∧ resOf P env' st' rs = some ds ∧ K ds ∧ (∀ t d, env t = .v d → env' t = .v d) ∧ (∀ t s off, env t = .ptr s off → env' t = .ptr s off) ∧ ∀ (s : Nat) bT cells, st[s]? = some (.box bT cells) → st'[s]? = some (.box bT cells)
  | [], env, st, K, h => ⟨env, st, [], Sub.refl _ _ _, rfl, h, fun _ _ h => h, fun _ _ _ h => h, fun _ _ _ h => h⟩
  | .tmp t :: r, env, st, K, h => by
    unfold retK at h
    split at h
    · rename_i d hd
      obtain ⟨env', st', ds, h1, h2, h3, h4, h5, h6⟩ := retK_sound hT h
      refine ⟨env', st', d :: ds, h1, ?_, h3, h4, h5, h6⟩
      unfold resOf
      simp only [h4 t d hd, h2]
    · rename_i s k lo n hd
      split at h
      · rename_i k' e sz xs hst
        obtain ⟨⟨rfl, rfl, hn⟩, h⟩ := h
        obtain ⟨env', st', ds, h1, h2, h3, h4, h5, h6⟩ := retK_sound hT h
        have hs := Sub.shut (N := N) (env := env) (st := st) t s _ n e sz xs hd hst hn
        refine ⟨env', st', _ :: ds, hs.trans h1, ?_, h3, fun t' d' hd' => ?_, fun t' s' off' hd' => ?_, fun s' bT cells hc => ?_⟩
        · unfold resOf
          simp only [h4 t _ (upd_same _ _ _), h2]
        · refine h4 t' d' ?_
          have : t' ≠ t := fun e' => by subst e'; rw [hd] at hd'; cases hd'
          rw [upd_other _ _ this]; exact hd'
        · refine h5 t' s' off' ?_
          have : t' ≠ t := fun e' => by subst e'; rw [hd] at hd'; cases hd'
          rw [upd_other _ _ this]; exact hd'
        · refine h6 s' bT cells ?_
          have : s ≠ s' := fun e' => by subst e'; rw [hst] at hc; cases hc
          rw [List.getElem?_set, if_neg this]; exact hc
      · exact h.elim
    · exact h.elim
  | .cell a t :: r, env, st, K, h => by
    unfold retK at h
    split at h
    · rename_i s off n ha hl
      split at h
      · rename_i cells hst
        split at h
        · rename_i cs hcs
          obtain ⟨hn, h⟩ := h
          obtain ⟨env', st', ds, h1, h2, h3, h4, h5, h6⟩ := retK_sound hT h
          refine ⟨env', st', .agg cs :: ds, h1, ?_, h3, h4, h5, h6⟩
          unfold resOf
          simp only [h5 _ _ _ ha, hT.ld _ _ hl, h2, h6 _ _ _ hst, hcs, hn, if_true]
        · exact h.elim
      · exact h.elim
    · rename_i s off n ha hl
      split at h
      · rename_i cells hst
        split at h
        · rename_i d hcs
          obtain ⟨env', st', ds, h1, h2, h3, h4, h5, h6⟩ := retK_sound hT h
          refine ⟨env', st', .one d :: ds, h1, ?_, h3, h4, h5, h6⟩
          unfold resOf
          simp only [h5 _ _ _ ha, hT.ld _ _ hl, h2, h6 _ _ _ hst, hcs]
        · exact h.elim
      · exact h.elim
    · exact h.elim

/-- what a function comes to -/
def Rets (T : Tab) (rs : List ResultVar) (res : List DV) : Post
  | .normal, env, st => retK T rs env st fun ds => AsLe ds res
  | .ret, env, st => retK T rs env st fun ds => AsLe ds res
  | _, _, _ => False

/-- results that are data, in slots -/
def retD (env : Env) : List ResultVar → Option (List DV)
  | [] => some []
  | .tmp t :: r => match env t, retD env r with
    | .v d, some ds => some (d :: ds)
    | _, _ => none
  | _ => none

def onlyData (env : Env) : Env := fun t => match env t with | .v d => .v d | _ => .junk

theorem retD_res {P : Program} {env : Env} {st : List AO} : ∀ {rs : List ResultVar} {ds : List DV}, retD env rs = some ds → resOf P (onlyData env) st rs = some ds
  | [], ds, h => by cases h; rfl
  | .tmp t :: r, ds, h => by
    unfold retD at h
    split at h
    · rename_i d ds' h1 h2
      cases h
      unfold resOf
      have : onlyData env t = .v d := by simp [onlyData, h1]
      simp only [this, retD_res h2]
    · cases h
  | .cell _ _ :: r, ds, h => by simp [retD] at h

/-- what a function comes to that turns own things -/
def RetsE (rs : List ResultVar) (res : List DV) (st' : List AO) : Post
  | .normal, env, st => st.take st'.length = st' ∧ (st'.all (objBelow st'.length)) = true ∧ ∃ ds, retD env rs = some ds ∧ AsLe ds res
  | .ret, env, st => st.take st'.length = st' ∧ (st'.all (objBelow st'.length)) = true ∧ ∃ ds, retD env rs = some ds ∧ AsLe ds res
  | _, _, _ => False

theorem eff_vc {P : Program} {f : FuncId} {fn : Func} {n : Nat} {c : Code} {args : List AV} {st st' : List AO} {res : List DV} (hf : P.funcs[f]? = some fn) (hN : fn.ntmps = n) (hb : fn.body = some c) (hn : args.length ≤ n)
    (hlen : st.length = st'.length) (h : WP P ⟨n, st.length⟩ c (argsE args) st (RetsE fn.results.toList res st')) : Eff P f args st res st' := by
  subst hN
  refine eff_of_le (Le := fun ds s => s = st' ∧ AsLe ds res) (fun ds s hl => ⟨hl.1, fun σ u => hl.2.res⟩) hf hb hn ?_
  intro w0 σ0 I a w hr
  refine wp_mono (h w0 σ0 I a w hr) fun e a' w' q => ?_
  have key : ∀ env s, Rel ⟨fn.ntmps, st.length⟩ w0 σ0 I env s a' w' → (s.take st'.length = st' ∧ (st'.all (objBelow st'.length)) = true ∧ ∃ ds, retD env fn.results.toList = some ds ∧ AsLe ds res) →
      ∃ env s, Rel ⟨fn.ntmps, st.length⟩ w0 σ0 I env s a' w' ∧ ∃ ds, (s = st' ∧ AsLe ds res) ∧ resOf P env s fn.results.toList = some ds := by
    intro env s ⟨h1, h2, hI, σ, gh, hbase, hk, he⟩ ⟨h4, h5, ds, h6, h7⟩
    have hb' := hbase.take st'.length (by rw [h4]; exact h5)
    rw [h4] at hb'
    refine ⟨onlyData env, st', ⟨h1, h2, hI, σ, gh.take st'.length, hb', fun v b hv => ?_, fun t => ?_⟩, ds, ⟨rfl, h7⟩, retD_res h6⟩
    · have hle : I.gh.length ≤ st'.length := by rw [hI]; simp [hlen]
      have := (hk v b hv).take (belowN_of hv hle)
      rwa [h4] at this
    · unfold onlyData
      split
      · rename_i d hd
        have := he t
        rw [hd] at this
        exact this
      · trivial
  cases e with
  | normal => obtain ⟨env, st, h1, h2⟩ := q; exact key env st h1 h2
  | ret => obtain ⟨env, st, h1, h2⟩ := q; exact key env st h1 h2
  | exit _ => obtain ⟨env, st, h1, h2⟩ := q; exact (h2 : False).elim
  | goto _ => obtain ⟨env, st, h1, h2⟩ := q; exact (h2 : False).elim
  | panic _ => exact q
  | outgrown => exact q

/-- .. and leaves just these own things -/
def RetsE0 (rs : List ResultVar) (res : List DV) (st' : List AO) : Post
  | .normal, env, st => st = st' ∧ ∃ ds, retD env rs = some ds ∧ AsLe ds res
  | .ret, env, st => st = st' ∧ ∃ ds, retD env rs = some ds ∧ AsLe ds res
  | _, _, _ => False

theorem eff_vc0 {P : Program} {f : FuncId} {fn : Func} {n : Nat} {c : Code} {args : List AV} {st st' : List AO} {res : List DV} (hf : P.funcs[f]? = some fn) (hN : fn.ntmps = n) (hb : fn.body = some c) (hn : args.length ≤ n)
    (h : WP P ⟨n, st.length⟩ c (argsE args) st (RetsE0 fn.results.toList res st')) : Eff P f args st res st' := by
  subst hN
  refine eff_of_le (Le := fun ds s => s = st' ∧ AsLe ds res) (fun ds s hl => ⟨hl.1, fun σ u => hl.2.res⟩) hf hb hn ?_
  intro w0 σ0 I a w hr
  refine wp_mono (h w0 σ0 I a w hr) fun e a' w' q => ?_
  have key : ∀ env s, Rel ⟨fn.ntmps, st.length⟩ w0 σ0 I env s a' w' → (s = st' ∧ ∃ ds, retD env fn.results.toList = some ds ∧ AsLe ds res) →
      ∃ env s, Rel ⟨fn.ntmps, st.length⟩ w0 σ0 I env s a' w' ∧ ∃ ds, (s = st' ∧ AsLe ds res) ∧ resOf P env s fn.results.toList = some ds := by
    intro env s ⟨h1, h2, hI, σ, gh, hbase, hk, he⟩ ⟨rfl, ds, h6, h7⟩
    refine ⟨onlyData env, s, ⟨h1, h2, hI, σ, gh, hbase, hk, fun t => ?_⟩, ds, ⟨rfl, h7⟩, retD_res h6⟩
    unfold onlyData
    split
    · rename_i d hd
      have := he t
      rw [hd] at this
      exact this
    · trivial
  cases e with
  | normal => obtain ⟨env, st, h1, h2⟩ := q; exact key env st h1 h2
  | ret => obtain ⟨env, st, h1, h2⟩ := q; exact key env st h1 h2
  | exit _ => obtain ⟨env, st, h1, h2⟩ := q; exact (h2 : False).elim
  | goto _ => obtain ⟨env, st, h1, h2⟩ := q; exact (h2 : False).elim
  | panic _ => exact q
  | outgrown => exact q

section
variable {P : Program} {T : Tab} (hT : TabOk P T)
include hT

theorem impl_vc {f : FuncId} {fn : Func} {n : Nat} {c : Code} {args res : List DV} (hf : P.funcs[f]? = some fn) (hN : fn.ntmps = n) (hb : fn.body = some c) (hn : args.length ≤ n)
    (h : WP P ⟨n, 0⟩ c (argsE (args.map AV.v)) [] (Rets T fn.results.toList res)) : Impl P f args res := by
  subst hN
  refine impl_of_le (Le := fun ds => AsLe ds res) (fun ds hl σ u => hl.res) hf hb hn ?_
  intro w0 σ0 I a w hr
  refine wp_mono (h w0 σ0 I a w hr) fun e a' w' q => ?_
  have key : ∀ env st, Rel ⟨fn.ntmps, 0⟩ w0 σ0 I env st a' w' → retK T fn.results.toList env st (fun ds => AsLe ds res) → ∃ env st, Rel ⟨fn.ntmps, 0⟩ w0 σ0 I env st a' w' ∧ ∃ ds, AsLe ds res ∧ resOf P env st fn.results.toList = some ds := by
    intro env st h1 h2
    obtain ⟨env', st', ds, h3, h4, h5, _⟩ := retK_sound (N := ⟨fn.ntmps, 0⟩) hT h2
    exact ⟨env', st', h3 _ _ _ _ _ h1, ds, h5, h4⟩
  cases e with
  | normal => obtain ⟨env, st, h1, h2⟩ := q; exact key env st h1 h2
  | ret => obtain ⟨env, st, h1, h2⟩ := q; exact key env st h1 h2
  | exit _ => obtain ⟨env, st, h1, h2⟩ := q; exact (h2 : False).elim
  | goto _ => obtain ⟨env, st, h1, h2⟩ := q; exact (h2 : False).elim
  | panic _ => exact q
  | outgrown => exact q

end
end Go.Proofs.Nw.K
end
section
/- K18: tables as lists. -/
open Go Go.RowKit
set_option linter.unusedVariables false
namespace Go.Proofs.Nw.K
universe u
def lk {β : Type u} : List (Nat × β) → Nat → Option β
  | [], _ => none
  | (k, v) :: r, t => bif Nat.beq k t then some v else lk r t

theorem lk_all {β : Type u} {p : Nat → β → Prop} : ∀ {l : List (Nat × β)}, (∀ x ∈ l, p x.1 x.2) → ∀ t x, lk l t = some x → p t x
  | [], _, t, x, h => by cases h
  | (k, v) :: r, ha, t, x, h => by
    unfold lk at h
    cases hb : Nat.beq k t with
    | true =>
      rw [hb] at h
      simp only [cond_true, Option.some.injEq] at h
      have e : k = t := Nat.eq_of_beq_eq_true hb
      subst e h
      exact ha (k, v) (by simp)
    | false =>
      rw [hb] at h
      simp only [cond_false] at h
      exact lk_all (fun x hx => ha x (by simp [hx])) t x h

theorem all_nil {β : Type u} {p : Nat × β → Prop} : ∀ x ∈ ([] : List (Nat × β)), p x := fun x h => by cases h
theorem all_cons {β : Type u} {p : Nat × β → Prop} {a : Nat × β} {l : List (Nat × β)} (h : p a) (k : ∀ x ∈ l, p x) : ∀ x ∈ a :: l, p x := fun x hx => by
  rcases List.mem_cons.1 hx with rfl | hx
  · exact h
  · exact k x hx

def mkTab (ld : List (Nat × (Nat × Bool))) (fo : List (Nat × List (Nat × Nat))) (el : List (Nat × (Nat × Nat))) (ap : List (Nat × (Nat × Nat × Nat))) (kd : List (Nat × TK)) (zb : List (Nat × List AV)) (zd : List (Nat × List D))
    (bt : List (Nat × List (Nat × Nat))) (ss : List (Nat × Nat)) (cl : List (Nat × Unit)) (by_ : List (Nat × Nat)) (cv : List (Nat × List (Nat × (Nat × Nat)))) (ei : List (Nat × Unit)) (pt : List (Nat × Unit)) : Tab where
  ld := lk ld
  fo := fun t f => match lk fo t with | some r => lk r f | none => none
  el := lk el
  ap := lk ap
  kd := fun t => match lk kd t with | some k => k | none => .other
  zb := lk zb
  zd := lk zd
  bt := lk bt
  ss := lk ss
  cl := fun f => (lk cl f).isSome
  bb := lk by_
  cv := fun t f => match lk cv t with | some r => lk r f | none => none
  ei := fun f => (lk ei f).isSome
  pt := fun f => (lk pt f).isSome

def kdOf (P : Program) (t : TypeId) : TK :=
  match P.underlying t with
  | some (.int k) => .int k
  | some .string => .str
  | some .bool => .bool
  | some (.slice e) => .slice e
  | _ => .other

theorem kdOf_int {P : Program} {t : TypeId} {k : IntKind} (h : kdOf P t = .int k) : P.underlying t = some (.int k) := by
  unfold kdOf at h
  split at h <;> first | (cases h; assumption) | cases h
theorem kdOf_str {P : Program} {t : TypeId} (h : kdOf P t = .str) : P.underlying t = some .string := by
  unfold kdOf at h
  split at h <;> first | assumption | cases h
theorem kdOf_bool {P : Program} {t : TypeId} (h : kdOf P t = .bool) : P.underlying t = some .bool := by
  unfold kdOf at h
  split at h <;> first | assumption | cases h
theorem kdOf_slice {P : Program} {t e : TypeId} (h : kdOf P t = .slice e) : P.underlying t = some (.slice e) := by
  unfold kdOf at h
  split at h <;> first | (cases h; assumption) | cases h

theorem mkTab_ok {P : Program} {ld : List (Nat × (Nat × Bool))} {fo : List (Nat × List (Nat × Nat))} {el : List (Nat × (Nat × Nat))} {ap : List (Nat × (Nat × Nat × Nat))} {kd : List (Nat × TK)} {zb : List (Nat × List AV)} {zd : List (Nat × List D)}
    {bt : List (Nat × List (Nat × Nat))} {ss : List (Nat × Nat)} {cl : List (Nat × Unit)} {by_ : List (Nat × Nat)} {cv : List (Nat × List (Nat × (Nat × Nat)))} {ei : List (Nat × Unit)} {pt : List (Nat × Unit)} (h1 : ∀ x ∈ ld, ldT P x.1 = some x.2) (h2 : ∀ x ∈ fo, ∀ y ∈ x.2, fieldOff P x.1 y.1 = some y.2) (h3 : ∀ x ∈ el, elT P x.1 = some x.2) (h4 : ∀ x ∈ ap, appT P x.1 = some x.2)
    (h5 : ∀ x ∈ kd, kdOf P x.1 = x.2) (h6 : ∀ x ∈ zb, zeroOf P x.1 = some x.2) (h7 : ∀ x ∈ zd, zeroD P x.1 = some x.2) (h8 : ∀ x ∈ bt, buildT P x.1 = some x.2) (h9 : ∀ x ∈ ss, strStruct P x.1 = some x.2)
    (h10 : ∀ x ∈ cl, callable P x.1 = true) (h12 : ∀ x ∈ by_, byteT P x.1 = some x.2) (h13 : ∀ x ∈ cv, ∀ y ∈ x.2, CvOk P x.1 y.1 y.2.1 y.2.2) (h14 : ∀ x ∈ ei, IdFn P x.1) (h15 : ∀ x ∈ pt, ptrT P x.1 = true) (h11 : P.follows .mixedOrders = true) : TabOk P (mkTab ld fo el ap kd zb zd bt ss cl by_ cv ei pt) := by
  have hk : ∀ t k, (mkTab ld fo el ap kd zb zd bt ss cl by_ cv ei pt).kd t = k → k ≠ .other → kdOf P t = k := by
    intro t k h hne
    simp only [mkTab] at h
    split at h
    · rename_i k' hk'; subst h; exact lk_all (p := fun t k => kdOf P t = k) h5 t _ hk'
    · exact absurd h.symm hne
  exact {
    ld := fun t x h => by simp only [mkTab] at h; exact lk_all (p := fun t x => ldT P t = some x) h1 t x h
    fo := fun t f x h => by
      simp only [mkTab] at h
      split at h
      · rename_i r hr
        have := lk_all (p := fun t (r : List (Nat × Nat)) => ∀ y ∈ r, fieldOff P t y.1 = some y.2) h2 t r hr
        exact lk_all (p := fun f x => fieldOff P t f = some x) this f x h
      · cases h
    el := fun t x h => by simp only [mkTab] at h; exact lk_all (p := fun t x => elT P t = some x) h3 t x h
    ap := fun t x h => by simp only [mkTab] at h; exact lk_all (p := fun t x => appT P t = some x) h4 t x h
    kint := fun t k h => kdOf_int (hk t _ h (by intro e; cases e))
    kstr := fun t h => kdOf_str (hk t _ h (by intro e; cases e))
    kbool := fun t h => kdOf_bool (hk t _ h (by intro e; cases e))
    kslice := fun t e h => kdOf_slice (hk t _ h (by intro e; cases e))
    zb := fun t x h => by simp only [mkTab] at h; exact lk_all (p := fun t x => zeroOf P t = some x) h6 t x h
    zd := fun t x h => by simp only [mkTab] at h; exact lk_all (p := fun t x => zeroD P t = some x) h7 t x h
    bt := fun t x h => by simp only [mkTab] at h; exact lk_all (p := fun t x => buildT P t = some x) h8 t x h
    ss := fun t x h => by simp only [mkTab] at h; exact lk_all (p := fun t x => strStruct P t = some x) h9 t x h
    cl := fun f h => by
      simp only [mkTab] at h
      cases hc : lk cl f with
      | none => simp [hc] at h
      | some x => exact lk_all (p := fun f _ => callable P f = true) h10 f x hc
    bb := fun t x h => by simp only [mkTab] at h; exact lk_all (p := fun t x => byteT P t = some x) h12 t x h
    cv := fun s d b n h => by
      simp only [mkTab] at h
      split at h
      · rename_i r hr
        have := lk_all (p := fun t (r : List (Nat × (Nat × Nat))) => ∀ y ∈ r, CvOk P t y.1 y.2.1 y.2.2) h13 s r hr
        exact lk_all (p := fun f (x : Nat × Nat) => CvOk P s f x.1 x.2) this d (b, n) h
      · cases h
    ei := fun f h => by
      simp only [mkTab] at h
      cases hc : lk ei f with
      | none => simp [hc] at h
      | some x => exact lk_all (p := fun f _ => IdFn P f) h14 f x hc
    pt := fun f h => by
      simp only [mkTab] at h
      cases hc : lk pt f with
      | none => simp [hc] at h
      | some x => exact lk_all (p := fun f _ => ptrT P f = true) h15 f x hc
    mixed := h11 }

end Go.Proofs.Nw.K
end
section
/- K19: what a row hands in, read as data. -/
open Go Go.RowKit
set_option linter.unusedVariables false
set_option linter.unusedSimpArgs false
namespace Go.Proofs.Nw.K

def sigOf (w : World) : Sig where
  cell b o := (w.cell? ⟨b, o, none⟩).filter (·.oneCell')
  obj r := match w.heap[r]? with | some (.map es c) => some (.map es c) | _ => none

theorem sigOf_sealed (w : World) : Sealed (sigOf w) w where
  cell b o v h := by
    simp only [sigOf, Option.filter_eq_some_iff] at h
    exact h
  obj r o h := by
    simp only [sigOf] at h
    split at h
    · rename_i es c he; cases h; exact he
    · cases h

theorem sigOf_cell {w : World} {b o : Nat} {v : Value} (h : w.cell? ⟨b, o, none⟩ = some v) (h1 : v.oneCell' = true) : (sigOf w).cell b o = some v := by
  simp [sigOf, h, h1]

mutual
def bulk {H : Type} : DataW H → Nat
  | .lit (.string bytes) => bytes.length + 1
  | .lit _ => 1
  | .nil => 1
  | .ptr d => bulk d + 1
  | .slice elems spare => bulkAll elems + bulkAll spare + 1
  | .agg parts => bulkAll parts + 1
  | .iface _ d => bulk d + 1
  | .map entries => bulkEntries entries + 1
  | .held _ => 1
def bulkAll {H : Type} : List (DataW H) → Nat
  | [] => 0
  | d :: r => bulk d + bulkAll r
def bulkEntries {H : Type} : List (Lit × DataW H) → Nat
  | [] => 0
  | x :: r => bulkEntry x + bulkEntries r
def bulkEntry {H : Type} : Lit × DataW H → Nat
  | (.string bytes, d) => bytes.length + bulk d + 1
  | (_, d) => bulk d + 1
end

/-- what lies in cells that read as a type's: a datum, with its weight and what is known of it -/
structure Opens (P : Program) (t : TypeId) {α : Type} (enc : α → List D) (wt : α → Nat) (ok : α → Prop) : Prop where
  of : ∀ {H : Type} {e : TypeId × Value → H} {w : World} {base : Nat} {sp : Nat → Bool} {fuel : Nat} {cs : List Value} {x : DataW H × List MemPlace},
    DataW.trod e P w base sp true fuel t cs = some x → ∃ a, RepL (sigOf w) cs (enc a) ∧ (∀ c ∈ cs, c.oneCell' = true) ∧ wt a ≤ bulk x.1 ∧ ok a

theorem RepL.single {σ : Sig} {v : Value} {d : D} (h : Rep σ v d) : RepL σ [v] [d] :=
  ⟨rfl, fun i v' d' h1 h2 => by
    cases i with
    | zero => simp at h1 h2; subst h1 h2; exact h
    | succ i => simp at h1⟩

theorem RepL.append {σ : Sig} {vs vs' : List Value} {ds ds' : List D} (h : RepL σ vs ds) (k : RepL σ vs' ds') : RepL σ (vs ++ vs') (ds ++ ds') := by
  refine ⟨by simp [h.1, k.1], fun i v d h1 h2 => ?_⟩
  by_cases hi : i < vs.length
  · rw [List.getElem?_append_left hi] at h1
    rw [List.getElem?_append_left (by rw [← h.1]; exact hi)] at h2
    exact h.2 i v d h1 h2
  · rw [List.getElem?_append_right (by omega)] at h1
    rw [List.getElem?_append_right (by rw [← h.1]; omega), ← h.1] at h2
    exact k.2 _ v d h1 h2

variable {P : Program} {t : TypeId}

theorem opens_bool (ht : P.underlying t = some .bool) : Opens P t (fun b : Bool => [.sc (.bool b)]) (fun _ => 1) (fun _ => True) := by
  refine ⟨?_⟩
  intro H e w base sp fuel cs x h
  obtain ⟨b, rfl, rfl⟩ := DataW.trod_bool ht h
  exact ⟨b, .single (.sc rfl), by simp [Value.oneCell'], by simp [bulk], trivial⟩

theorem opens_int {k : IntKind} (ht : P.underlying t = some (.int k)) : Opens P t (fun n : Int => [.sc (.int k n)]) (fun _ => 1) (fun n => (Lit.int k n).wf = true) := by
  refine ⟨?_⟩
  intro H e w base sp fuel cs x h
  obtain ⟨n, rfl, rfl, hw⟩ := DataW.trod_int ht h
  exact ⟨n, .single (.sc rfl), by simp [Value.oneCell'], by simp [bulk], hw⟩

theorem opens_string (ht : P.underlying t = some .string) : Opens P t (fun s : ByteArray => [.sc (.string s)]) (fun s => s.size + 1) (fun s => s.size ≤ maxLen) := by
  refine ⟨?_⟩
  intro H e w base sp fuel cs x h
  obtain ⟨s, rfl, rfl, hw⟩ := DataW.trod_string ht h
  refine ⟨s, .single (.sc rfl), by simp [Value.oneCell'], ?_, hw⟩
  simp only [bulk, Array.length_toList, ByteArray.size]; exact Nat.le_refl _

theorem bulkAll_sum {H : Type} : ∀ (ds : List (DataW H)), bulkAll ds = (ds.map bulk).sum
  | [] => by simp [bulkAll]
  | d :: r => by simp [bulkAll, bulkAll_sum r]

universe u
/-- for each place one, all together -/
theorem choose_list {α : Type u} {p : Nat → α → Prop} : ∀ (n : Nat), (∀ i, i < n → ∃ a, p i a) → ∃ xs : List α, xs.length = n ∧ ∀ (i : Nat) a, xs[i]? = some a → p i a
  | 0, _ => ⟨[], rfl, fun i a h => by simp at h⟩
  | n + 1, h => by
    obtain ⟨xs, h1, h2⟩ := choose_list n fun i hi => h i (by omega)
    obtain ⟨a, ha⟩ := h n (by omega)
    refine ⟨xs ++ [a], by simp [h1], fun i b hb => ?_⟩
    by_cases hi : i < xs.length
    · rw [List.getElem?_append_left hi] at hb; exact h2 i b hb
    · rw [List.getElem?_append_right (by omega)] at hb
      have : i = n := by
        have := (List.getElem?_eq_some_iff.1 hb).1
        simp at this; omega
      subst this
      simp [h1] at hb; subst hb; exact ha

theorem sum_le_sum : ∀ {xs ys : List Nat}, xs.length = ys.length → (∀ (i : Nat) a b, xs[i]? = some a → ys[i]? = some b → a ≤ b) → xs.sum ≤ ys.sum
  | [], [], _, _ => by simp
  | x :: xs, y :: ys, hl, h => by
    have h0 := h 0 x y rfl rfl
    have ih := sum_le_sum (xs := xs) (ys := ys) (by simpa using hl) fun i a b ha hb => h (i + 1) a b (by simpa using ha) (by simpa using hb)
    simp; omega
  | [], _ :: _, hl, _ => by simp at hl
  | _ :: _, [], hl, _ => by simp at hl

theorem add_none (b o i : Nat) : (⟨b, o, none⟩ : Addr).add i = ⟨b, o + i, none⟩ := by
  unfold Addr.add
  split
  · rename_i h; simp_all
  · rfl

theorem opens_rows {e : TypeId} {sz : Nat} {α : Type} {enc : α → List D} {wt : α → Nat} {ok : α → Prop} (ht : P.underlying t = some (.slice e)) (hsz : P.cellsOf e = sz) (hpos : 0 < sz) (he : Opens P e enc wt ok) :
    Opens P t (fun xs : List α => [.list sz (xs.map enc)]) (fun xs => (xs.map wt).sum + 1) (fun xs => xs.length ≤ maxLen ∧ ∀ x ∈ xs, ok x) := by
  refine ⟨?_⟩
  intro H en w base sp fuel cs x h
  rcases DataW.trod_slice ht h with ⟨rfl, rfl⟩ | ⟨a, len, cap, elems, rest, n, _, rfl, rfl, hb, hl, hm, hlen, hel, hsp, hns⟩
  · exact ⟨[], .single (.nil (by simp [maxLen])), by simp [Value.oneCell'], by simp [bulk], by simp [maxLen], by simp⟩
  obtain ⟨xs, hx1, hx2⟩ := choose_list (p := fun i (c : α × List Value) => ∃ y, w.cells? base (a.add (i * P.cellsOf e)) (P.cellsOf e) = some c.2 ∧ elems[i]? = some y ∧
      RepL (sigOf w) c.2 (enc c.1) ∧ (∀ v ∈ c.2, v.oneCell' = true) ∧ wt c.1 ≤ bulk y.1 ∧ ok c.1) len (fun i hi => by
    have := hel i hi
    have hlt : i < elems.length := by omega
    rw [List.getElem?_eq_getElem hlt] at this
    simp only [Option.bind_eq_some_iff] at this
    obtain ⟨cs, h1, h2⟩ := this
    obtain ⟨a, h3, h4, h5, h6⟩ := he.of h2
    exact ⟨(a, cs), _, h1, List.getElem?_eq_getElem hlt, h3, h4, h5, h6⟩)
  refine ⟨xs.map (·.1), .single ?_, by simp [Value.oneCell'], ?_, by simp [hx1]; omega, ?_⟩
  · by_cases h0 : len = 0
    · subst h0
      have : xs = [] := by simpa using hx1
      subst this
      exact .nil hm
    subst hsz
    have hget : ∀ (i : Nat), i < len → ∃ c, xs[i]? = some c := fun i hi => ⟨xs[i], List.getElem?_eq_getElem (by omega)⟩
    have hspot : a.spot = none := by
      obtain ⟨c, hc⟩ := hget 0 (by omega)
      obtain ⟨y, h1, _⟩ := hx2 0 c hc
      obtain ⟨_, h3, h4⟩ := World.cells?_some h1
      have := h4 0 (by omega)
      have hs : 0 < c.2.length := by omega
      rw [List.getElem?_eq_getElem hs] at this
      simp only [World.cell?] at this
      split at this
      · split at this
        · cases this
        · rename_i hne
          cases hsp : a.spot with
          | none => rfl
          | some z => simp [Addr.add, hsp] at hne
      · cases this
    · obtain ⟨ab, ao, asp⟩ := a
      simp only at hspot; subst hspot
      refine .list (fun i j => ((xs[i]?.bind fun c => c.2[j]?).getD undef)) (by simp [hx1]) (by omega) hl hm ?_ ?_ ?_
      · intro i d hd
        simp only [List.getElem?_map, Option.map_eq_some_iff] at hd
        obtain ⟨a, ⟨c, hc, rfl⟩, rfl⟩ := hd
        obtain ⟨y, h1, _, h3, _⟩ := hx2 i c hc
        obtain ⟨_, h5, _⟩ := World.cells?_some h1
        rw [← h3.1, h5]
      · intro i j hi hj
        obtain ⟨c, hc⟩ := hget i hi
        obtain ⟨y, h1, _, h3, h4, _⟩ := hx2 i c hc
        obtain ⟨_, h5, h6⟩ := World.cells?_some h1
        have := h6 j hj
        have hlt : j < c.2.length := by omega
        rw [List.getElem?_eq_getElem hlt] at this
        simp only [hc, Option.bind_some, List.getElem?_eq_getElem hlt, Option.getD_some]
        exact sigOf_cell (by simpa only [add_none] using this) (h4 _ (List.getElem_mem _))
      · intro i j d1 d hd1 hd
        simp only [List.getElem?_map, Option.map_eq_some_iff] at hd1
        obtain ⟨a, ⟨c, hc, rfl⟩, rfl⟩ := hd1
        obtain ⟨y, h1, _, h3, _⟩ := hx2 i c hc
        have hlt : j < c.2.length := by rw [h3.1]; exact (List.getElem?_eq_some_iff.1 hd).1
        simp only [hc, Option.bind_some, List.getElem?_eq_getElem hlt, Option.getD_some]
        exact h3.2 j _ d (List.getElem?_eq_getElem hlt) hd
  · simp only [bulk]
    have : ((xs.map (·.1)).map wt).sum ≤ ((elems.map (·.1)).map bulk).sum := by
      refine sum_le_sum (by simp [hx1, hlen]) fun i a b ha hb => ?_
      simp only [List.getElem?_map, Option.map_eq_some_iff] at ha hb
      obtain ⟨_, ⟨c, hc, rfl⟩, rfl⟩ := ha
      obtain ⟨_, ⟨y, hy, rfl⟩, rfl⟩ := hb
      obtain ⟨y', _, h2, _, _, h5, _⟩ := hx2 i c hc
      rw [hy] at h2; cases h2
      exact h5
    rw [bulkAll_sum, bulkAll_sum]; omega
  · intro a ha
    simp only [List.mem_map] at ha
    obtain ⟨c, hc, rfl⟩ := ha
    obtain ⟨i, hi⟩ := List.getElem?_of_mem hc
    obtain ⟨_, _, _, _, _, _, h6⟩ := hx2 i c hi
    exact h6

theorem opens_slice {e : TypeId} {sz : Nat} {α : Type} {enc : α → List D} {wt : α → Nat} {ok : α → Prop} (z : α) (ht : P.underlying t = some (.slice e)) (hsz : P.cellsOf e = sz) (hpos : 0 < sz) (he : Opens P e enc wt ok) :
    Opens P t (fun xs : List α => [.tl α sz enc z xs]) (fun xs => (xs.map wt).sum + 1) (fun xs => xs.length ≤ maxLen ∧ ∀ x ∈ xs, ok x) := by
  refine ⟨?_⟩
  intro H en w base sp fuel cs x h
  obtain ⟨xs, h1, h2, h3, h4⟩ := (opens_rows ht hsz hpos he).of h
  obtain ⟨hl, hr⟩ := h1
  refine ⟨xs, ⟨hl, fun i v d hv hd => ?_⟩, h2, h3, h4⟩
  cases i with
  | zero => simp at hd; subst hd; exact .tl (hr 0 v _ hv rfl)
  | succ i => simp at hd

/-- the fields of a struct, from one on -/
structure OpensF (P : Program) (fs : List Field) (lo hi : Nat) {α : Type} (enc : α → List D) (wt : α → Nat) (ok : α → Prop) : Prop where
  of : ∀ {H : Type} {e : TypeId × Value → H} {w : World} {base : Nat} {sp : Nat → Bool} {fuel : Nat} {cs : List Value} {xs : List (DataW H × List MemPlace)}, cs.length = hi → xs.length = fs.length →
    (∀ (i : Nat) (f : Field), fs[i]? = some f → DataW.trod e P w base sp true fuel f.type ((cs.drop f.offset).take (P.cellsOf f.type)) = xs[i]?) →
    ∃ a, RepL (sigOf w) (cs.drop lo) (enc a) ∧ (∀ c ∈ cs.drop lo, c.oneCell' = true) ∧ wt a ≤ ((xs.map (·.1)).map bulk).sum ∧ ok a

theorem opensF_nil {hi : Nat} : OpensF P [] hi hi (fun _ : Unit => []) (fun _ => 0) (fun _ => True) := by
  refine ⟨?_⟩
  intro H e w base sp fuel cs xs hl hx h
  have : cs.drop hi = [] := by simp [← hl]
  rw [this]
  exact ⟨(), ⟨rfl, fun i v d h => by simp at h⟩, by simp, by simp, trivial⟩

theorem opensF_cons {f : Field} {fs : List Field} {lo hi k : Nat} {α β : Type} {enc : α → List D} {wt : α → Nat} {ok : α → Prop} {enc' : β → List D} {wt' : β → Nat} {ok' : β → Prop} (ho : f.offset = lo) (hk : P.cellsOf f.type = k)
    (h : Opens P f.type enc wt ok) (hr : OpensF P fs (lo + k) hi enc' wt' ok') : OpensF P (f :: fs) lo hi (fun p : α × β => enc p.1 ++ enc' p.2) (fun p => wt p.1 + wt' p.2) (fun p => ok p.1 ∧ ok' p.2) := by
  refine ⟨?_⟩
  intro H e w base sp fuel cs xs hl hx hall
  subst ho hk
  cases xs with
  | nil => simp at hx
  | cons x xs =>
    have h0 := hall 0 f rfl
    obtain ⟨a, a1, a2, a3, a4⟩ := h.of h0
    obtain ⟨b, b1, b2, b3, b4⟩ := hr.of (cs := cs) (xs := xs) hl (by simpa using hx) fun i g hg => by simpa using hall (i + 1) g (by simpa using hg)
    have hs : cs.drop f.offset = (cs.drop f.offset).take (P.cellsOf f.type) ++ cs.drop (f.offset + P.cellsOf f.type) := by
      rw [← List.drop_drop, List.take_append_drop]
    refine ⟨(a, b), ?_, ?_, by simp only [List.map_cons, List.sum_cons]; omega, a4, b4⟩
    · rw [hs]; exact a1.append b1
    · rw [hs]; intro c hc
      rcases List.mem_append.1 hc with hc | hc
      · exact a2 c hc
      · exact b2 c hc

theorem opens_struct {fs : Array Field} {hi : Nat} {α : Type} {enc : α → List D} {wt : α → Nat} {ok : α → Prop} (ht : P.underlying t = some (.struct fs)) (hh : P.cellsOf t = hi) (h : OpensF P fs.toList 0 hi enc wt ok) :
    Opens P t enc (fun a => wt a + 1) ok := by
  refine ⟨?_⟩
  intro H e w base sp fuel cs x hx
  obtain ⟨xs, n, rfl, rfl, hl, hxl, hall⟩ := DataW.trod_struct ht hx
  obtain ⟨a, a1, a2, a3, a4⟩ := h.of (cs := cs) (xs := xs) (by rw [hl, hh]) (by simpa using hxl) fun i f hf => hall i f (by simpa using hf)
  exact ⟨a, by simpa using a1, by simpa using a2, by simp only [bulk, bulkAll_sum]; omega, a4⟩

theorem Opens.map {α β : Type} {enc : α → List D} {wt : α → Nat} {ok : α → Prop} {enc' : β → List D} {wt' : β → Nat} {ok' : β → Prop} (h : Opens P t enc wt ok) (f : α → β) (h1 : ∀ a, enc' (f a) = enc a) (h2 : ∀ a, wt' (f a) ≤ wt a) (h3 : ∀ a, ok a → ok' (f a)) :
    Opens P t enc' wt' ok' := by
  refine ⟨?_⟩
  intro H e w base sp fuel cs x hx
  obtain ⟨a, a1, a2, a3, a4⟩ := h.of hx
  exact ⟨f a, by rw [h1]; exact a1, a2, Nat.le_trans (h2 a) a3, h3 a a4⟩

/-- one argument, read -/
theorem Opens.arg {H : Type} {en : TypeId × Value → H} {w : World} {base : Nat} {sp : Nat → Bool} {v : Value} {d : DataW H} {ps : List MemPlace} {α : Type} {enc : α → List D} {wt : α → Nat} {ok : α → Prop} (h : Opens P t enc wt ok)
    (hd : DataW.Trod en P w base sp true t v d ps) : ∃ a, RepL (sigOf w) v.cells.toList (enc a) ∧ wt a ≤ bulk d ∧ ok a := by
  obtain ⟨fuel, hf⟩ := hd
  obtain ⟨a, h1, _, h3, h4⟩ := h.of hf
  exact ⟨a, h1, h3, h4⟩

theorem RepL.to_one {σ : Sig} {v : Value} {d : D} (h : RepL σ [v] [d]) : RepV σ v (.one d) := h.2 0 v d rfl rfl
theorem RepL.to_agg {σ : Sig} {cs : Array Value} {ds : List D} (h : RepL σ cs.toList ds) : RepV σ (.agg cs) (.agg ds) := ⟨cs.toList, by simp, h⟩
theorem RepVs.nil {σ : Sig} : RepVs σ [] [] := ⟨rfl, fun i v d h => by simp at h⟩
theorem RepVs.cons {σ : Sig} {v : Value} {vs : List Value} {d : DV} {ds : List DV} (h : RepV σ v d) (k : RepVs σ vs ds) : RepVs σ (v :: vs) (d :: ds) :=
  ⟨by simp [k.1], fun i v' d' h1 h2 => by
    cases i with
    | zero => simp at h1 h2; subst h1 h2; exact h
    | succ i => simp at h1 h2; exact k.2 i v' d' h1 h2⟩

/-- a law's contract, called with what the row hands in -/
theorem Impl.law {f : FuncId} {args : List DV} (h : Impl P f args [.one (.sc (.bool true))]) {W : World} {vs : List Value} (hv : RepVs (sigOf W) vs args) :
    Calls P f vs.toArray W fun e W' => e = .returned (.bool true) ∧ Below W.heap.size W W' := by
  refine (h W (sigOf W) vs (sigOf_sealed W) hv).mono fun e w' ⟨u, σ', h1, h2, _, _, h5⟩ => ?_
  have h5 : Rep σ' u (.sc (.bool true)) := h5
  cases h5
  exact ⟨h1, h2.toBelow⟩

end Go.Proofs.Nw.K
end
section
/- E1: the program's data, as Lean types. -/
open Go Go.RowKit
set_option linter.unusedVariables false
namespace Go.Proofs.Nw.K

abbrev Str := ByteArray
structure Excluded where
  group : Str
  name : Str
structure Dep where
  group : Str
  name : Str
  version : Str
  type : Str
  classifier : Str
  scope : Str
  optional : Bool
  excluded : List Excluded
structure Coord where
  group : Str
  name : Str
  version : Str
structure Pair where
  name : Str
  value : Str
structure Pom where
  parent : Coord
  group : Str
  name : Str
  version : Str
  packaging : Str
  props : List Pair
  managed : List Dep
  deps : List Dep
structure Item where
  coord : Coord
  text : Str
structure Found where
  parent : Int
  index : Int
  dep : Dep
  kind : Int
structure Resolved where
  root : Coord
  nodes : List Found

abbrev dstr (s : Str) : D := .sc (.string s)
abbrev dint (n : Int) : D := .sc (.int .i64 n)
abbrev dbool (b : Bool) : D := .sc (.bool b)
def emp : Str := ⟨#[]⟩
def encExcluded (x : Excluded) : List D := [dstr x.group, dstr x.name]
def zExcluded : Excluded := ⟨emp, emp⟩
abbrev dExcludeds (l : List Excluded) : D := .tl Excluded 2 encExcluded zExcluded l
def encDep (d : Dep) : List D := [dstr d.group, dstr d.name, dstr d.version, dstr d.type, dstr d.classifier, dstr d.scope, dbool d.optional, dExcludeds d.excluded]
def zDep : Dep := ⟨emp, emp, emp, emp, emp, emp, false, []⟩
abbrev dDeps (l : List Dep) : D := .tl Dep 8 encDep zDep l
def encCoord (c : Coord) : List D := [dstr c.group, dstr c.name, dstr c.version]
def zCoord : Coord := ⟨emp, emp, emp⟩
def encPair (c : Pair) : List D := [dstr c.name, dstr c.value]
def zPair : Pair := ⟨emp, emp⟩
abbrev dPairs (l : List Pair) : D := .tl Pair 2 encPair zPair l
def encPom (p : Pom) : List D := [dstr p.parent.group, dstr p.parent.name, dstr p.parent.version, dstr p.group, dstr p.name, dstr p.version, dstr p.packaging, dPairs p.props, dDeps p.managed, dDeps p.deps]
def zPom : Pom := ⟨zCoord, emp, emp, emp, emp, [], [], []⟩
abbrev dPoms (l : List Pom) : D := .tl Pom 10 encPom zPom l
def encItem (i : Item) : List D := [dstr i.coord.group, dstr i.coord.name, dstr i.coord.version, dstr i.text]
def zItem : Item := ⟨zCoord, emp⟩
abbrev dItems (l : List Item) : D := .tl Item 4 encItem zItem l
def encFound (f : Found) : List D := [dint f.parent, dint f.index, dstr f.dep.group, dstr f.dep.name, dstr f.dep.version, dstr f.dep.type, dstr f.dep.classifier, dstr f.dep.scope, dbool f.dep.optional, dExcludeds f.dep.excluded, dint f.kind]
def zFound : Found := ⟨0, 0, zDep, 0⟩
abbrev dFounds (l : List Found) : D := .tl Found 11 encFound zFound l
def encResolved (r : Resolved) : List D := [dstr r.root.group, dstr r.root.name, dstr r.root.version, dFounds r.nodes]
abbrev encStr (s : Str) : List D := [dstr s]
abbrev dStrs (l : List Str) : D := .tl Str 1 encStr emp l
abbrev encInt (n : Int) : List D := [dint n]
abbrev dInts (l : List Int) : D := .tl Int 1 encInt 0 l

def isInt (n : Int) : Prop := -9223372036854775808 ≤ n ∧ n ≤ 9223372036854775807

/- weights: as a reading counts them, or less -/
def Excluded.wt (x : Excluded) : Nat := x.group.size + x.name.size + 3
def Dep.wt (d : Dep) : Nat := d.group.size + d.name.size + d.version.size + d.type.size + d.classifier.size + d.scope.size + (d.excluded.map Excluded.wt).sum + 9
def Coord.wt (c : Coord) : Nat := c.group.size + c.name.size + c.version.size + 4
def Pair.wt (c : Pair) : Nat := c.name.size + c.value.size + 3
def Pom.wt (p : Pom) : Nat := p.parent.wt + p.group.size + p.name.size + p.version.size + p.packaging.size + (p.props.map Pair.wt).sum + (p.managed.map Dep.wt).sum + (p.deps.map Dep.wt).sum + 8
def Item.wt (i : Item) : Nat := i.coord.wt + i.text.size + 2
def Found.wt (f : Found) : Nat := f.dep.wt + 4
def Resolved.wt (r : Resolved) : Nat := r.root.wt + (r.nodes.map Found.wt).sum + 2

def Found.Ok (f : Found) : Prop := isInt f.parent ∧ isInt f.index ∧ isInt f.kind
def Resolved.Ok (r : Resolved) : Prop := ∀ f ∈ r.nodes, f.Ok

theorem isInt_of {n : Int} (h : (Lit.int .i64 n).wf = true) : isInt n := by
  have h' : IntKind.min .i64 ≤ n ∧ n ≤ IntKind.max .i64 := by simpa [Lit.wf] using h
  simpa [isInt, IntKind.min, IntKind.max, IntKind.signed, IntKind.bits] using h'

end Go.Proofs.Nw.K
end
section
/- What a reading of the program's types holds. -/
open Go Go.RowKit
set_option linter.unusedVariables false
set_option maxRecDepth 100000
namespace Go.Proofs.Nw.K
open Go.Proofs
theorem open_str : Opens Tryz.prog 9 (fun s : Str => [dstr s]) (fun s => s.size + 1) (fun s => s.size ≤ maxLen) := opens_string Tryz.underlying9
theorem open_bool : Opens Tryz.prog 4 (fun b : Bool => [dbool b]) (fun _ => 1) (fun _ => True) := opens_bool Tryz.underlying4
theorem open_int : Opens Tryz.prog 3 (fun n : Int => [dint n]) (fun _ => 1) (fun n => isInt n) := Opens.map (opens_int Tryz.underlying3) (fun n => n) (fun _ => rfl) (fun _ => Nat.le_refl _) (fun _ h => isInt_of h)
theorem open_strs : Opens Tryz.prog 24 (fun xs : List Str => [.tl Str 1 encStr emp xs]) (fun xs => (xs.map (fun s => s.size + 1)).sum + 1) (fun xs => xs.length ≤ maxLen ∧ ∀ s ∈ xs, s.size ≤ maxLen) := opens_slice emp Tryz.underlying24 (by kernel_rfl) (by decide) open_str
theorem open_ints : Opens Tryz.prog 22 (fun xs : List Int => [.tl Int 1 encInt (0 : Int) xs]) (fun xs => (xs.map (fun _ => 1)).sum + 1) (fun xs => xs.length ≤ maxLen ∧ ∀ s ∈ xs, isInt s) := opens_slice (0 : Int) Tryz.underlying22 (by kernel_rfl) (by decide) open_int
theorem open_Excluded : Opens Tryz.prog 134 encExcluded Excluded.wt (fun _ => True) := (opens_struct Tryz.underlying134 (by kernel_rfl) (opensF_cons (k := 1) rfl (by kernel_rfl) open_str (opensF_cons (k := 1) rfl (by kernel_rfl) open_str opensF_nil))).map (fun a => ⟨a.1, a.2.1⟩) (fun a => rfl) (fun a => by simp only [Excluded.wt]; omega) (fun _ _ => trivial)
theorem open_Excludeds : Opens Tryz.prog 127 (fun xs : List Excluded => [.tl Excluded 2 encExcluded zExcluded xs]) (fun xs => (xs.map (Excluded.wt)).sum + 1) (fun xs => xs.length ≤ maxLen ∧ ∀ s ∈ xs, True) := opens_slice zExcluded Tryz.underlying127 (by kernel_rfl) (by decide) open_Excluded
theorem open_Dep : Opens Tryz.prog 129 encDep Dep.wt (fun _ => True) := (opens_struct Tryz.underlying129 (by kernel_rfl) (opensF_cons (k := 1) rfl (by kernel_rfl) open_str (opensF_cons (k := 1) rfl (by kernel_rfl) open_str (opensF_cons (k := 1) rfl (by kernel_rfl) open_str (opensF_cons (k := 1) rfl (by kernel_rfl) open_str (opensF_cons (k := 1) rfl (by kernel_rfl) open_str (opensF_cons (k := 1) rfl (by kernel_rfl) open_str (opensF_cons (k := 1) rfl (by kernel_rfl) open_bool (opensF_cons (k := 1) rfl (by kernel_rfl) open_Excludeds opensF_nil))))))))).map (fun a => ⟨a.1, a.2.1, a.2.2.1, a.2.2.2.1, a.2.2.2.2.1, a.2.2.2.2.2.1, a.2.2.2.2.2.2.1, a.2.2.2.2.2.2.2.1⟩) (fun a => rfl) (fun a => by simp only [Dep.wt]; omega) (fun _ _ => trivial)
theorem open_Deps : Opens Tryz.prog 81 (fun xs : List Dep => [.tl Dep 8 encDep zDep xs]) (fun xs => (xs.map (Dep.wt)).sum + 1) (fun xs => xs.length ≤ maxLen ∧ ∀ s ∈ xs, True) := opens_slice zDep Tryz.underlying81 (by kernel_rfl) (by decide) open_Dep
theorem open_Coord : Opens Tryz.prog 29 encCoord Coord.wt (fun _ => True) := (opens_struct Tryz.underlying29 (by kernel_rfl) (opensF_cons (k := 1) rfl (by kernel_rfl) open_str (opensF_cons (k := 1) rfl (by kernel_rfl) open_str (opensF_cons (k := 1) rfl (by kernel_rfl) open_str opensF_nil)))).map (fun a => ⟨a.1, a.2.1, a.2.2.1⟩) (fun a => rfl) (fun a => by simp only [Coord.wt]; omega) (fun _ _ => trivial)
theorem open_Pair : Opens Tryz.prog 107 encPair Pair.wt (fun _ => True) := (opens_struct Tryz.underlying107 (by kernel_rfl) (opensF_cons (k := 1) rfl (by kernel_rfl) open_str (opensF_cons (k := 1) rfl (by kernel_rfl) open_str opensF_nil))).map (fun a => ⟨a.1, a.2.1⟩) (fun a => rfl) (fun a => by simp only [Pair.wt]; omega) (fun _ _ => trivial)
theorem open_Pairs : Opens Tryz.prog 80 (fun xs : List Pair => [.tl Pair 2 encPair zPair xs]) (fun xs => (xs.map (Pair.wt)).sum + 1) (fun xs => xs.length ≤ maxLen ∧ ∀ s ∈ xs, True) := opens_slice zPair Tryz.underlying80 (by kernel_rfl) (by decide) open_Pair
theorem open_Pom : Opens Tryz.prog 83 encPom Pom.wt (fun _ => True) := (opens_struct Tryz.underlying83 (by kernel_rfl) (opensF_cons (k := 3) rfl (by kernel_rfl) open_Coord (opensF_cons (k := 1) rfl (by kernel_rfl) open_str (opensF_cons (k := 1) rfl (by kernel_rfl) open_str (opensF_cons (k := 1) rfl (by kernel_rfl) open_str (opensF_cons (k := 1) rfl (by kernel_rfl) open_str (opensF_cons (k := 1) rfl (by kernel_rfl) open_Pairs (opensF_cons (k := 1) rfl (by kernel_rfl) open_Deps (opensF_cons (k := 1) rfl (by kernel_rfl) open_Deps opensF_nil))))))))).map (fun a => ⟨a.1, a.2.1, a.2.2.1, a.2.2.2.1, a.2.2.2.2.1, a.2.2.2.2.2.1, a.2.2.2.2.2.2.1, a.2.2.2.2.2.2.2.1⟩) (fun a => rfl) (fun a => by simp only [Pom.wt]; omega) (fun _ _ => trivial)
theorem open_Poms : Opens Tryz.prog 54 (fun xs : List Pom => [.tl Pom 10 encPom zPom xs]) (fun xs => (xs.map (Pom.wt)).sum + 1) (fun xs => xs.length ≤ maxLen ∧ ∀ s ∈ xs, True) := opens_slice zPom Tryz.underlying54 (by kernel_rfl) (by decide) open_Pom
theorem open_Item : Opens Tryz.prog 31 encItem Item.wt (fun _ => True) := (opens_struct Tryz.underlying31 (by kernel_rfl) (opensF_cons (k := 3) rfl (by kernel_rfl) open_Coord (opensF_cons (k := 1) rfl (by kernel_rfl) open_str opensF_nil))).map (fun a => ⟨a.1, a.2.1⟩) (fun a => rfl) (fun a => by simp only [Item.wt]; omega) (fun _ _ => trivial)
theorem open_Items : Opens Tryz.prog 23 (fun xs : List Item => [.tl Item 4 encItem zItem xs]) (fun xs => (xs.map (Item.wt)).sum + 1) (fun xs => xs.length ≤ maxLen ∧ ∀ s ∈ xs, True) := opens_slice zItem Tryz.underlying23 (by kernel_rfl) (by decide) open_Item
end Go.Proofs.Nw.K
end
