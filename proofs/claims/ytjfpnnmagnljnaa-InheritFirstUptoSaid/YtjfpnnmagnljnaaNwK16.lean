/- K16: 'vc' is sound. -/
import Derived.Test.YtjfpnnmagnljnaaNwK15
import Derived.Lib.SliceRun
open Go Go.RowKit
set_option linter.unusedVariables false
set_option linter.unusedSimpArgs false
namespace Go.Proofs.Nw.K

section
variable {P : Program} {T : Tab} {N : Fm} (hT : TabOk P T)
include hT

omit hT in
theorem vcArith_sound {op : Op} {E : Operand → AV} {k : IntKind} {r : Int} {st : List AO} {K : KO} (h : vcArith k r st K) (ho : OpS P op E st (.sc (.int k (k.wrap r))) st) : ∃ v st', OpS P op E st v st' ∧ K v st' := by
  unfold vcArith at h
  split at h
  · obtain ⟨⟨h1, h2⟩, h3⟩ := h
    rw [wrap_i64_id _ h1 h2] at ho
    exact ⟨_, _, ho, h3⟩
  · exact ⟨_, _, ho, h⟩

theorem vcBin_sound {op : BinOp} {t ty : TypeId} {x y : Operand} {E : Operand → AV} {st : List AO} {K : KO} (h : vcBin T op t (E x) (E y) st K) : ∃ v st', OpS P (.binOp op t x y ty) E st v st' ∧ K v st' := by
  generalize hx : E x = a at h
  generalize hy : E y = b at h
  unfold vcBin at h
  split at h
  all_goals first
    | exact h.elim
    | skip
  · obtain ⟨rfl, h⟩ := h; exact vcArith_sound h (op_add _ _ _ _ _ _ _ hx hy)
  · obtain ⟨rfl, h⟩ := h; exact vcArith_sound h (op_sub _ _ _ _ _ _ _ hx hy)
  · obtain ⟨rfl, h⟩ := h; exact vcArith_sound h (op_mul _ _ _ _ _ _ _ hx hy)
  · obtain ⟨rfl, h0, h⟩ := h; exact vcArith_sound h (op_quo _ _ _ _ _ _ _ hx hy h0)
  · obtain ⟨rfl, h0, h⟩ := h; exact ⟨_, _, op_rem _ _ _ _ _ _ _ hx hy h0, h⟩
  · obtain ⟨rfl, h⟩ := h; exact ⟨_, _, op_eql _ _ _ _ _ _ _ hx hy, h⟩
  · obtain ⟨rfl, h⟩ := h; exact ⟨_, _, op_neq _ _ _ _ _ _ _ hx hy, h⟩
  · obtain ⟨rfl, h⟩ := h; exact ⟨_, _, op_lss _ _ _ _ _ _ _ hx hy, h⟩
  · obtain ⟨rfl, h⟩ := h; exact ⟨_, _, op_leq _ _ _ _ _ _ _ hx hy, h⟩
  · obtain ⟨rfl, h⟩ := h; exact ⟨_, _, op_gtr _ _ _ _ _ _ _ hx hy, h⟩
  · obtain ⟨rfl, h⟩ := h; exact ⟨_, _, op_geq _ _ _ _ _ _ _ hx hy, h⟩
  · obtain ⟨h0, h⟩ := h; exact ⟨_, _, op_sadd _ _ _ _ _ _ hx hy h0, h⟩
  · exact ⟨_, _, op_seql _ _ _ _ _ _ hx hy, h⟩
  · exact ⟨_, _, op_sneq _ _ _ _ _ _ hx hy, h⟩
  · exact ⟨_, _, op_slss _ _ _ _ _ _ hx hy, h⟩
  · exact ⟨_, _, op_sleq _ _ _ _ _ _ hx hy, h⟩
  · exact ⟨_, _, op_sgtr _ _ _ _ _ _ hx hy, h⟩
  · obtain ⟨h0, h⟩ := h; exact ⟨_, _, op_beql _ _ _ _ _ _ (hT.kbool _ h0) hx hy, h⟩
  · exact ⟨_, _, op_peql_nil _ _ _ _ _ _ (hT.pt _ h.1) hx hy, h.2⟩
  · exact ⟨_, _, op_peql_nils _ _ _ _ (hT.pt _ h.1) hx hy, h.2⟩
  · obtain ⟨⟨rfl, rfl⟩, h1, h2⟩ := h; exact ⟨_, _, op_pneq_same _ _ _ _ _ _ (hT.pt _ h1) hx hy, h2⟩
  · split at h
    · rename_i n a b h1 h2 h3
      obtain ⟨h4, h5, h⟩ := h
      exact ⟨_, _, op_aggeq false _ _ _ _ n _ _ a b (hT.ss _ _ h1) hx hy h2 h3 h4 h5, h⟩
    · exact h.elim
  · split at h
    · rename_i n a b h1 h2 h3
      obtain ⟨h4, h5, h⟩ := h
      exact ⟨_, _, op_aggeq true _ _ _ _ n _ _ a b (hT.ss _ _ h1) hx hy h2 h3 h4 h5, h⟩
    · exact h.elim

theorem vcLoad_sound {t : TypeId} {x : Operand} {E : Operand → AV} {st : List AO} {K : KO} (h : vcLoad T t (E x) st K) : ∃ v st', OpS P (.load t x) E st v st' ∧ K v st' := by
  generalize hx : E x = a at h
  unfold vcLoad at h
  split at h
  · rename_i n cells hl; exact ⟨_, _, op_load_ref _ _ n cells (hT.ld _ _ hl) hx h.1, h.2⟩
  · rename_i n cells hl
    split at h
    · rename_i d hd; exact ⟨_, _, op_load_ref1 _ _ n d cells (hT.ld _ _ hl) hx hd, h⟩
    · exact h.elim
  · rename_i n s off hl
    split at h
    · rename_i cells hst
      split at h
      · rename_i ds hds; exact ⟨_, _, op_load_ptr _ _ n s off ds cells (hT.ld _ _ hl) hx hst hds h.1, h.2⟩
      · exact h.elim
    · exact h.elim
  · rename_i n s off hl
    split at h
    · rename_i cells hst
      split at h
      · rename_i a ha; exact ⟨_, _, op_load_ptr1 _ _ n s off a cells (hT.ld _ _ hl) hx hst ha, h⟩
      · exact h.elim
    · exact h.elim
  · rename_i n s v i off hl
    split at h
    · rename_i v' e sz xs hst
      obtain ⟨rfl, cells, h1, h2, h3⟩ := h
      exact ⟨_, _, op_load_ep _ _ n s v i off e sz xs cells (hT.ld _ _ hl) hx hst h1 h2, h3⟩
    · exact h.elim
  · rename_i n s v i off hl
    split at h
    · rename_i v' e sz xs hst
      obtain ⟨rfl, cells, d, h1, h2, h3⟩ := h
      exact ⟨_, _, op_load_ep1 _ _ n s v i off e sz d xs cells (hT.ld _ _ hl) hx hst h1 h2, h3⟩
    · exact h.elim
  · exact h.elim

theorem vcStore_sound {t : TypeId} {x y : Operand} {E : Operand → AV} {st : List AO} {K : KO} (h : vcStore T t (E x) (E y) st K) : ∃ v st', OpS P (.store t x y) E st v st' ∧ K v st' := by
  generalize hx : E x = a at h
  generalize hy : E y = b at h
  unfold vcStore at h
  split at h
  · rename_i n s off ds hl
    split at h
    · rename_i cells hst; exact ⟨_, _, op_store_ptr _ _ _ n s off ds cells (hT.ld _ _ hl) hx hy hst h.1 h.2.1, h.2.2⟩
    · exact h.elim
  · rename_i hl
    split at h
    · rename_i cells hst; exact ⟨_, _, op_store_ptr1 _ _ _ _ _ _ cells (hT.ld _ _ hl) hx hy hst h.1 h.2.1, h.2.2⟩
    · exact h.elim
  · exact h.elim

omit hT in
/-- an operation ahead of which what is known is seen otherwise -/
theorem OpS.pre {op : Op} {E E1 : Operand → AV} {st st1 st' : List AO} {v : AV} (h : OpS P op E1 st1 v st')
    (hp : ∀ w0 σ0 σ gh (ρ : Operand → Value) w, Base w0 σ0 σ gh st w → (∀ x ∈ op.operands, RepA σ gh st (ρ x) (E x)) → ∃ σ1 gh1, Fut w0 σ0 σ gh st σ1 gh1 st1 w ∧ ∀ x ∈ op.operands, RepA σ1 gh1 st1 (ρ x) (E1 x)) : OpS P op E st v st' := by
  intro o ho w0 σ0 σ gh ρ w hb hρ
  obtain ⟨σ1, gh1, hf, hρ1⟩ := hp w0 σ0 σ gh ρ w hb hρ
  have := h o ho w0 σ0 σ1 gh1 ρ w hf.base hρ1
  unfold Out at this ⊢
  split
  · rename_i u w' e
    rw [e] at this
    obtain ⟨σ', gh', h1, h2⟩ := this
    exact ⟨σ', gh', hf.trans h1, h2⟩
  · rename_i w' e
    rw [e] at this
    obtain ⟨h0, σ', gh', h1⟩ := this
    exact ⟨h0, σ', gh', hf.trans h1⟩
  · rename_i f args w' e
    rw [e] at this
    exact this.mono fun _ _ ⟨u, h0, σ', gh', h1, h2⟩ => ⟨u, h0, σ', gh', hf.trans h1, h2⟩
  · rename_i hn1 hn2 hn3
    split at this
    · rename_i u w' e; exact (hn1 _ _ e).elim
    · rename_i w' e; exact (hn2 _ e).elim
    · rename_i f args w' e; exact (hn3 _ _ _ e).elim
    · exact this

open Classical in
theorem vcStoreG_sound {t : TypeId} {x y : Operand} {E : Operand → AV} {st : List AO} {K : KO} (h : vcStoreG T t (E x) (E y) st K) : ∃ v st', OpS P (.store t x y) E st v st' ∧ K v st' := by
  generalize hy : E y = b at h
  unfold vcStoreG at h
  split at h
  · rename_i s k lo n
    rcases h with h | h
    · rw [← hy] at h; exact vcStore_sound hT h
    · split at h
      · rename_i k' e sz xs hst
        obtain ⟨⟨rfl, rfl, hn⟩, h⟩ := h
        have hxy : x ≠ y := fun e' => by
          subst e'
          rw [hy] at h
          unfold vcStore at h
          split at h <;> first | exact h.elim | (rename_i hx _; cases hx) | (rename_i hx; cases hx) | skip
          all_goals simp_all
        let E1 : Operand → AV := fun z => if z = y then .list sz xs else E z
        have e1 : E1 x = E x := by simp [E1, hxy]
        have e2 : E1 y = .list sz xs := by simp [E1]
        rw [← e1, ← e2] at h
        obtain ⟨v, st', h1, h2⟩ := vcStore_sound hT h
        refine ⟨v, st', h1.pre fun w0 σ0 σ gh ρ w hb hρ => ?_, h2⟩
        have hu := hρ y (by simp [Op.operands])
        rw [hy] at hu
        obtain ⟨g, hg, hR, A, c, hv⟩ := h_val hb hst hu
        obtain ⟨σ', hf, hrep⟩ := seal_row hb hst hg
        have hug : ρ y = g := by
          obtain ⟨h0, ⟨a1, a2, a3⟩ | ⟨b, m, c2, a1, a2, ⟨a3, a4, _⟩ | a3⟩⟩ := hR
          · exact a3
          · omega
          · obtain ⟨A', c', hgv, hc'⟩ := row_val hb hst hg
            rw [a1] at hgv
            injection hgv with e1 e2 e3
            rw [a3, a1, e2, hn]; simp
        refine ⟨σ', gh, hf, fun z hz => ?_⟩
        by_cases hzy : z = y
        · subst hzy
          show RepA σ' gh _ _ (E1 z)
          rw [e2, hug]; exact hrep
        · show RepA σ' gh _ _ (E1 z)
          simp only [E1, if_neg hzy]
          exact hf.keep _ _ (hρ z hz)
      · exact h.elim
  · rw [← hy] at h; exact vcStore_sound hT h

theorem vcIndexAddr_sound {t : TypeId} {x i : Operand} {E : Operand → AV} {st : List AO} {K : KO} (h : vcIndexAddr T t (E x) (E i) st K) : ∃ v st', OpS P (.indexAddr t x i) E st v st' ∧ K v st' := by
  generalize hx : E x = a at h
  generalize hi : E i = b at h
  unfold vcIndexAddr at h
  split at h
  · rename_i e sz α sz' enc z xs k n hl
    obtain ⟨rfl, h1, h2, h3⟩ := h
    exact ⟨_, _, op_indexAddr_tl _ e _ _ _ _ _ _ _ _ _ (hT.el _ _ hl) hx hi h1 h2, h3⟩
  · rename_i e sz sz' xs k n hl
    obtain ⟨rfl, h1, cells, h2, h3⟩ := h
    exact ⟨_, _, op_indexAddr _ e _ _ _ _ _ _ _ (hT.el _ _ hl) hx hi h1 h2, h3⟩
  · rename_i e sz s v lo m k n hl
    split at h
    · rename_i v' e' sz' xs hst
      obtain ⟨rfl, rfl, h1, h2, h3⟩ := h
      exact ⟨_, _, op_indexAddr_h _ e _ _ _ _ _ _ _ _ _ _ _ (hT.el _ _ hl) hx hi hst h1 h2, h3⟩
    · exact h.elim
  · exact h.elim

omit hT in
theorem vcLo_sound {E : Operand → AV} {o : Option Operand} {K : Nat → Prop} (h : vcLo E o K) : ∃ l, loIs E l o ∧ K l := by
  unfold vcLo at h
  split at h
  · exact ⟨0, rfl, h⟩
  · rename_i x
    split at h
    · rename_i n hn; exact ⟨n.toNat, ⟨n, hn, h.1, rfl⟩, h.2⟩
    · exact h.elim

omit hT in
theorem vcHi_sound {E : Operand → AV} {len : Nat} {o : Option Operand} {K : Nat → Prop} (h : vcHi E len o K) : ∃ l, hiIs E len l o ∧ K l := by
  unfold vcHi at h
  split at h
  · exact ⟨len, rfl, h⟩
  · rename_i x
    split at h
    · rename_i n hn; exact ⟨n.toNat, ⟨n, hn, h.1, rfl⟩, h.2⟩
    · exact h.elim

theorem vcSlice_sound {t : TypeId} {x : Operand} {lo hi : Option Operand} {E : Operand → AV} {st : List AO} {K : KO} (h : vcSlice T t (E x) lo hi E st K) : ∃ v st', OpS P (.slice t x lo hi none) E st v st' ∧ K v st' := by
  generalize hx : E x = a at h
  unfold vcSlice at h
  split at h
  · rename_i s
    obtain ⟨h0, h⟩ := h
    obtain ⟨l, hl, h⟩ := vcLo_sound h
    obtain ⟨hh', hh, h1, h2, h3⟩ := vcHi_sound h
    refine ⟨_, _, op_slice_str t x lo hi l hh' s (hT.kstr _ h0) hx ?_ ?_ h1 h2, h3⟩
    · cases lo <;> exact hl
    · cases hi <;> exact hh
  · rename_i α sz enc z xs
    split at h
    · rename_i e sz' hl'
      obtain ⟨rfl, h⟩ := h
      obtain ⟨l, hl, h⟩ := vcLo_sound h
      obtain ⟨hh', hh, h1, h2, h3⟩ := vcHi_sound h
      exact ⟨_, _, op_slice_tl t e x lo hi l hh' α _ enc z xs (hT.el _ _ hl') hx hl hh h1 h2, h3⟩
    · exact h.elim
  · rename_i sz xs
    split at h
    · rename_i e sz' hl'
      obtain ⟨rfl, h⟩ := h
      obtain ⟨l, hl, h⟩ := vcLo_sound h
      obtain ⟨hh', hh, h1, h2, h3⟩ := vcHi_sound h
      exact ⟨_, _, op_slice_list t e _ x lo hi l hh' xs (hT.el _ _ hl') hx hl hh h1 h2, h3⟩
    · exact h.elim
  · rename_i s k off n
    split at h
    · rename_i e sz' k' e' sz xs hl' hst
      obtain ⟨rfl, rfl, h⟩ := h
      obtain ⟨l, hl, h⟩ := vcLo_sound h
      obtain ⟨hh', hh, h1, h2, h3⟩ := vcHi_sound h
      exact ⟨_, _, op_slice_h t e _ x lo hi l hh' s k off n e' xs (hT.el _ _ hl') hx hst hl hh h1 h2, h3⟩
    · exact h.elim
  · exact h.elim

end

theorem srcRows_sound {st : List AO} {sz : Nat} {a : AV} {K : List (List D) → Prop} (h : srcRows st sz a K) : ∃ ys, Src st (unT a) sz ys ∧ K ys := by
  unfold srcRows at h
  split at h
  · obtain ⟨rfl, h⟩ := h; exact ⟨_, .list, h⟩
  · obtain ⟨rfl, h⟩ := h; exact ⟨_, .list, h⟩
  · exact ⟨_, .nils, h⟩
  · split at h
    · rename_i hst; obtain ⟨rfl, rfl, h⟩ := h; exact ⟨_, .h hst rfl, h⟩
    · exact h.elim
  · exact h.elim

theorem unT_h {a : AV} {s k lo n : Nat} (h : a = .h s k lo n) : unT a = .h s k lo n := by subst h; rfl
theorem unT_nils {a : AV} (h : a = .nils) : unT a = .nils := by subst h; rfl

section
variable {P : Program} {T : Tab} {N : Fm} (hT : TabOk P T)
include hT

theorem vcAppend_sound {t : TypeId} {x y : Operand} {E : Operand → AV} {st : List AO} {K : KO} (h : vcAppend T t (E x) (E y) st K) :
    ∃ v st', OpS P (.call { callee := .builtin .append, args := #[x, y], argTypes := #[t, t] }) E st v st' ∧ K v st' := by
  generalize hx : E x = a at h
  unfold vcAppend at h
  split at h
  · rename_i e sz by_ hl
    obtain ⟨ys, h1, h2, h3, h4⟩ := srcRows_sound h
    exact ⟨_, _, OpS.unT (op_append_nils t e sz by_ x y ys (hT.ap _ _ hl) (unT_nils hx) h1 h2 h3), h4⟩
  · rename_i e sz by_ sz' xs hl
    obtain ⟨rfl, hne, h⟩ := h
    obtain ⟨ys, h1, h2, h3, h4, h5⟩ := srcRows_sound h
    exact ⟨_, _, OpS.unT (op_append_full t e _ by_ x y xs ys (hT.ap _ _ hl) (by show unT (E x) = _; rw [hx]; rfl) h1 h2 hne h3 h4), h5⟩
  · rename_i e sz by_ s k lo n hl
    split at h
    · rename_i k' e' sz' xs hst
      obtain ⟨⟨rfl, rfl, rfl, rfl⟩, h⟩ := h
      obtain ⟨ys, h1, h2, h3, h4⟩ := srcRows_sound h
      exact ⟨_, _, OpS.unT (op_append_h t _ _ by_ x y s k n xs ys (hT.ap _ _ hl) (unT_h hx) hst h1 h2 h3), h4⟩
    · exact h.elim
  · exact h.elim

theorem vcAppendS_sound {t t' : TypeId} {x y : Operand} {E : Operand → AV} {st : List AO} {K : KO} {s : ByteArray} (hk : T.kd t' = .str) (hy : E y = .str s) (h : vcAppendS T t (E x) s st K) :
    ∃ v st', OpS P (.call { callee := .builtin .append, args := #[x, y], argTypes := #[t, t'] }) E st v st' ∧ K v st' := by
  generalize hx : E x = a at h
  unfold vcAppendS at h
  split at h
  · rename_i e hl; exact ⟨_, _, op_appendS_nils t t' e x y s (hT.bb _ _ hl) (hT.kstr _ hk) hx hy h.1, h.2⟩
  · rename_i e r k lo n hl
    split at h
    · rename_i k' e' sz xs hst
      obtain ⟨⟨rfl, rfl, rfl, rfl⟩, h1, h2⟩ := h
      exact ⟨_, _, op_appendS_h t t' _ x y s r k n xs (hT.bb _ _ hl) (hT.kstr _ hk) hx hst hy h1, h2⟩
    · exact h.elim
  · exact h.elim

theorem vcLen_sound {t : TypeId} {x : Operand} {E : Operand → AV} {st : List AO} {K : KO} (h : vcLen T t (E x) st K) :
    ∃ v st', OpS P (.call { callee := .builtin .len, args := #[x], argTypes := #[t] }) E st v st' ∧ K v st' := by
  generalize hx : E x = a at h
  unfold vcLen at h
  split at h
  · rename_i e sz xs hk; exact ⟨_, _, op_len t x _ (by rw [hx]; exact .list (hT.kslice _ _ hk)), h⟩
  · rename_i e α sz enc z xs hk
    refine ⟨_, _, OpS.unT (op_len t x xs.length ?_), h⟩
    have : unT (E x) = .list sz (xs.map enc) := by rw [hx]; rfl
    simp only [this]
    have := LenOf.list (P := P) (st := st) (t := t) (sz := sz) (xs := xs.map enc) (hT.kslice _ _ hk)
    simpa using this
  · rename_i e hk; exact ⟨_, _, op_len t x 0 (by rw [hx]; exact .nils (hT.kslice _ _ hk)), h⟩
  · rename_i e s k lo n hk
    split at h
    · rename_i k' e' sz xs hst; obtain ⟨rfl, h⟩ := h; exact ⟨_, _, op_len t x n (by rw [hx]; exact .h (hT.kslice _ _ hk) hst), h⟩
    · exact h.elim
  · rename_i s hk; exact ⟨_, _, op_len t x _ (by rw [hx]; exact .str (hT.kstr _ hk)), h⟩
  · exact h.elim

omit hT in
theorem sealK_sound : ∀ {as : List AV} {st : List AO} {K : List AO → List DV → Prop}, sealK st as K → ∃ st' ds, K st' ds ∧ ∀ w0 σ0 σ gh w (vs : List Value), Base w0 σ0 σ gh st w → vs.length = as.length →
    (∀ (i : Nat) v a, vs[i]? = some v → as[i]? = some a → RepA σ gh st v a) → ∃ σ', Fut w0 σ0 σ gh st σ' gh st' w ∧ RepVs σ' vs ds
  | [], st, K, h => ⟨st, [], h, fun w0 σ0 σ gh w vs hb hl _ => ⟨σ, .refl hb, by simpa using hl, fun i v d _ hd => by simp at hd⟩⟩
  | a :: r, st, K, h => by
    cases a with
    | v d =>
      have h : sealK st r (fun st' ds => K st' (d :: ds)) := h
      obtain ⟨st', ds, hK, hs⟩ := sealK_sound h
      refine ⟨st', d :: ds, hK, fun w0 σ0 σ gh w vs hb hl hr => ?_⟩
      cases vs with
      | nil => simp at hl
      | cons v vs =>
        obtain ⟨σ', hf, hv⟩ := hs w0 σ0 σ gh w vs hb (by simpa using hl) (fun i v a hv ha => hr (i + 1) v a (by simpa using hv) (by simpa using ha))
        have h0 := hf.keep _ _ (hr 0 v _ rfl rfl)
        refine ⟨σ', hf, by simp [hv.1], fun i u d' hu hd => ?_⟩
        cases i with
        | zero => simp at hu hd; subst hu hd; exact h0
        | succ i => simp at hu hd; exact hv.2 i u d' hu hd
    | h s k lo n =>
      unfold sealK at h
      split at h
      · rename_i k' e sz xs hst
        obtain ⟨⟨rfl, rfl, hn⟩, h⟩ := h
        obtain ⟨st', ds, hK, hs⟩ := sealK_sound h
        refine ⟨st', .one (.list sz xs) :: ds, hK, fun w0 σ0 σ gh w vs hb hl hr => ?_⟩
        cases vs with
        | nil => simp at hl
        | cons v vs =>
          have hh := hr 0 v _ rfl rfl
          obtain ⟨g, hg, hR, A, c, hv⟩ := h_val hb hst hh
          obtain ⟨σ1, hf1, hrep⟩ := seal_row hb hst hg
          have hvg : v = g := by
            obtain ⟨h0, ⟨a1, a2, a3⟩ | ⟨b, m, c2, a1, a2, ⟨a3, a4, _⟩ | a3⟩⟩ := hR
            · exact a3
            · omega
            · obtain ⟨A', c', hgv, hc'⟩ := row_val hb hst hg
              rw [a1] at hgv
              injection hgv with e1 e2 e3
              subst hn e2
              rw [a3, a1]; simp
          subst hvg
          obtain ⟨σ', hf, hv'⟩ := hs w0 σ0 σ1 gh w vs hf1.base (by simpa using hl) (fun i v a hv ha => hf1.keep _ _ (hr (i + 1) v a (by simpa using hv) (by simpa using ha)))
          have h0 : RepA σ' gh st' v (.list sz xs) := hf.keep v (.list sz xs) hrep
          refine ⟨σ', hf1.trans hf, by simp [hv'.1], fun i u d' hu hd => ?_⟩
          cases i with
          | zero => simp at hu hd; subst hu hd; exact h0
          | succ i => simp at hu hd; exact hv'.2 i u d' hu hd
      · exact h.elim
    | _ => exact (h : False).elim

omit hT in
theorem scDV_rep {σ σ' : Sig} {v : Value} {d : DV} (h : scDV d = true) (hr : RepV σ v d) : RepV σ' v d := by
  unfold scDV at h
  split at h
  · have hr : Rep σ v (.sc _) := hr
    cases hr with
    | sc h => exact Rep.sc h
  · cases h

theorem vcCall_sound {x : Operand} {args : Array Operand} {ts : Array TypeId} {E : Operand → AV} {st : List AO} {K : KO} (h : vcCall P T (E x) (args.toList.map E) st K) :
    ∃ v st', OpS P (.call { callee := .value x, args := args, argTypes := ts }) E st v st' ∧ K v st' := by
  generalize hx : E x = a at h
  unfold vcCall at h
  split at h
  · rename_i f
    split at h
    · rename_i hei
      split at h
      · rename_i a ha
        obtain ⟨l⟩ := args
        match l, ha with
        | [y], ha =>
          have ha : E y = a := by simpa using ha
          subst ha
          exact ⟨_, _, op_call_id x y f ts hx (hT.ei _ hei), h⟩
      · exact h.elim
    obtain ⟨hcl, h⟩ := h
    have hc := hT.cl _ hcl
    split at h
    · rename_i ds hds
      obtain ⟨ds', res, h1, h2, h3⟩ := h
      exact ⟨_, _, op_call x f args ts ds res hx hc hds (h1.le h2), h3⟩
    · have hrun : ∀ (o : Oper), o.op = .call { callee := .value x, args := args, argTypes := ts } → ∀ {w0 σ0 σ gh} {ρ : Operand → Value} {w}, Base w0 σ0 σ gh st w → (∀ y ∈ (Op.call { callee := .value x, args := args, argTypes := ts }).operands, RepA σ gh st (ρ y) (E y)) →
          (execOp ρ o).run P w = .ok (.enter f (args.toList.map ρ).toArray) w ∧ (args.toList.map ρ).length = (args.toList.map E).length ∧ ∀ (i : Nat) v a, (args.toList.map ρ)[i]? = some v → (args.toList.map E)[i]? = some a → RepA σ gh st v a := by
        intro o ho w0 σ0 σ gh ρ w hb hρ
        have hf := hρ x (by simp [Op.operands, Call.operands])
        rw [hx] at hf
        have hf := RepA_sc hf
        refine ⟨?_, by simp, fun i v a hv ha => ?_⟩
        · have he : (args.toList.map ρ).toArray = args.map ρ := by apply Array.ext'; simp
          rw [he]
          simp only [execOp, ho, resolve, hf, Deferred.ofValue, Sem.run_bind, Sem.run_pure, Result.andThen_ok, invoke]
          have e1 : (⟨[]⟩ ++ Array.map ρ args ++ ⟨[]⟩ : Array Value) = Array.map ρ args := by simp
          rw [e1]
          exact callFunc_run hc (args.map ρ) w
        · simp only [List.getElem?_map, Option.map_eq_some_iff] at hv ha
          obtain ⟨y, hy, rfl⟩ := hv
          obtain ⟨z, hz, rfl⟩ := ha
          rw [hy] at hz
          cases hz
          refine hρ y ?_
          have hm : y ∈ args := by rw [← Array.mem_toList_iff]; exact List.mem_of_getElem? hy
          simp only [Op.operands, Call.operands]
          exact Array.mem_append.2 (.inr hm)
      rcases h with ⟨res, st', h1, h2⟩ | h | h
      · exact ⟨_, _, op_calleff x f args ts _ res st' hx hc rfl h1, h2⟩
      · obtain ⟨st', ds, ⟨ds', res, h1, h2, h3⟩, hs⟩ := sealK_sound h
        refine ⟨_, _, fun o ho w0 σ0 σ gh ρ w hb hρ => ?_, h3⟩
        obtain ⟨r1, r2, r3⟩ := hrun o ho hb hρ
        rw [r1]
        obtain ⟨σ1, hf, hv⟩ := hs w0 σ0 σ gh w _ hb r2 r3
        refine Calls.mono (h1 w σ1 _ hf.base.sl (h2.rep hv)) fun e w' ⟨u, σ', e1, c1, c2, c3, c4⟩ => ?_
        exact ⟨u, e1, σ', gh, hf.trans (Fut.call hf.base c1 c2 c3), resAV_rep c4⟩
      · obtain ⟨st', ds, ⟨ds', res, h1, h2, h4, h3⟩, hs⟩ := sealK_sound h
        refine ⟨_, st, fun o ho w0 σ0 σ gh ρ w hb hρ => ?_, h3⟩
        obtain ⟨r1, r2, r3⟩ := hrun o ho hb hρ
        rw [r1]
        obtain ⟨σ1, hf, hv⟩ := hs w0 σ0 σ gh w _ hb r2 r3
        refine Calls.mono (h1 w σ1 _ hf.base.sl (h2.rep hv)) fun e w' ⟨u, σ', e1, c1, c2, c3, c4⟩ => ?_
        refine ⟨u, e1, σ, gh, ⟨hb.grown ⟨c1.os, c1.tape, c1.output, c1.size, fun k hk _ => c1.block k hk⟩, fun _ _ h => h⟩, ?_⟩
        have hall := List.all_eq_true.1 h4
        refine resAV_rep ?_
        unfold RepRes at c4 ⊢
        split at c4
        · exact scDV_rep (hall _ (by simp)) c4
        · obtain ⟨us, e2, e3⟩ := c4
          exact ⟨us, e2, e3.1, fun i v d hv hd => scDV_rep (hall d (List.mem_of_getElem? hd)) (e3.2 i v d hv hd)⟩
  · exact h.elim

theorem vcConv_sound {s d : TypeId} {x : Operand} {E : Operand → AV} {st : List AO} {K : KO} (h : vcConv T s d (E x) st K) : ∃ v st', OpS P (.convert s d x) E st v st' ∧ K v st' := by
  generalize hx : E x = a at h
  unfold vcConv at h
  split at h
  · rename_i i h1 h2
    split at h
    · rename_i bT cells b n hst hcv
      obtain ⟨⟨rfl, rfl⟩, h⟩ := h
      exact ⟨_, _, op_convert_ptr s d x i _ cells hx hst (hT.cv _ _ _ _ hcv), h⟩
    · exact h.elim
  · rename_i k' k k2 n h1 h2
    obtain ⟨rfl, h⟩ := h
    exact ⟨_, _, op_convert_int s d x k _ n _ (hT.kint _ _ h1) (hT.kint _ _ h2) hx rfl, h⟩
  · rename_i e h1 h2
    obtain ⟨h0, h⟩ := h
    obtain ⟨ys, h3, ns, rfl, h4⟩ := srcRows_sound h
    exact ⟨_, _, OpS.unT (op_bytesToString s d e x ns (hT.kslice _ _ h1) (hT.kint _ _ h0) (hT.kstr _ h2) (by rw [hx]; exact h3)), h4⟩
  · exact h.elim

theorem vcOp_sound {op : Op} {E : Operand → AV} {st : List AO} {K : KO} (h : vcOp P T op E st K) : ∃ v st', OpS P op E st v st' ∧ K v st' := by
  unfold vcOp at h
  split at h
  · exact ⟨_, _, op_move _, force_out h⟩
  · exact ⟨_, _, op_assign _, force_out h⟩
  · split at h
    · rename_i b hc
      cases b
      · exact ⟨_, _, op_pick _ _ _ false hc, force_out (h.2 rfl)⟩
      · exact ⟨_, _, op_pick _ _ _ true hc, force_out (h.1 rfl)⟩
    · exact h.elim
  · exact vcBin_sound hT h
  · split at h
    · rename_i b hx; exact ⟨_, _, op_not _ _ b hx, h⟩
    · exact h.elim
  · exact vcConv_sound hT h
  · split at h
    · rename_i cells hz; exact ⟨_, _, op_alloc _ cells (hT.zb _ _ hz), h⟩
    · exact h.elim
  · split at h
    · rename_i ds hx; exact ⟨_, _, op_box_agg _ _ ds hx, h⟩
    · exact ⟨_, _, op_box1 _ _ _ rfl h.1, h.2⟩
  · split at h
    · rename_i zs ps hz hp
      split at h
      · rename_i ds hf; exact ⟨_, _, op_build _ _ zs ds ps (hT.zd _ _ hz) (hT.bt _ _ hp) hf, h⟩
      · exact h.elim
    · exact h.elim
  · split at h
    · rename_i e sz hl; exact ⟨_, _, op_buildSlice0 _ e sz (hT.el _ _ hl), h⟩
    · exact h.elim
  · split at h
    · rename_i e sz hl
      split at h
      · rename_i zs hz
        split at h
        · rename_i ds hf
          obtain ⟨h1, h2, h3, h4, h5⟩ := h
          have hop := op_buildSlice (E := E) (st := st) _ e sz _ _ zs ds (hT.el _ _ hl) (hT.zd _ _ hz) h1 h2 h3 hf h4
          rcases h5 with h5 | h5
          · exact ⟨_, _, hop.weaken (v' := .list sz _) (fun σ gh u hu => full_list hu) (fun hj => by cases hj), h5⟩
          · exact ⟨_, _, hop, h5⟩
        · exact h.elim
      · exact h.elim
    · exact h.elim
  · exact vcLoad_sound hT h
  · exact vcStoreG_sound hT h
  · split at h
    · rename_i k i off hf hx; exact ⟨_, _, op_fieldAddr_ptr _ _ _ i off k (hT.fo _ _ _ hf) hx, h⟩
    · rename_i k cells hf hx; exact ⟨_, _, op_fieldAddr_ref _ _ _ k cells (hT.fo _ _ _ hf) hx, h⟩
    · rename_i k i v j off hf hx
      split at h
      · rename_i v' e sz xs hst
        obtain ⟨rfl, h⟩ := h
        exact ⟨_, _, op_fieldAddr_ep _ _ _ i v j off k (hT.fo _ _ _ hf) hx _ hst ⟨e, sz, xs, rfl⟩, h⟩
      · exact h.elim
    · exact h.elim
  · exact vcIndexAddr_sound hT h
  · split at h
    · rename_i s k n hx hi; exact ⟨_, _, op_index_str _ _ _ k n s (hT.kstr _ h.1) hx hi h.2.1 h.2.2.1, h.2.2.2⟩
    · exact h.elim
  · exact vcSlice_sound hT h
  · split at h
    · rename_i vs hx
      split at h
      · rename_i d hd; exact ⟨_, _, op_extract _ _ vs d hx hd, h⟩
      · exact h.elim
    · exact h.elim
  · exact ⟨_, _, op_makeFunc _, h⟩
  · exact vcCall_sound hT h
  · exact vcLen_sound hT h
  · split at h
    · rename_i s hy; exact vcAppendS_sound hT h.1 hy h.2
    · obtain ⟨rfl, h⟩ := h; exact vcAppend_sound hT h
  · split at h
    · rename_i s off hx; exact ⟨_, _, op_nilCheck_ptr _ _ _ hx, h⟩
    · rename_i cells hx; exact ⟨_, _, op_nilCheck_ref _ _ hx, h⟩
    · exact h.elim
  · exact ⟨_, _, op_makeMap _, h⟩
  · split at h
    · rename_i s k hx hi
      split at h
      · rename_i es hst
        obtain ⟨zd, l, d, h1, rfl, rfl, h2⟩ := h
        exact ⟨_, _, op_lookup _ _ _ s zd l k h1 hx hst hi, h2⟩
      · exact h.elim
    · exact h.elim
  · split at h
    · rename_i s k d hx hi hy
      split at h
      · rename_i es hst
        obtain ⟨zd, l, h1, rfl, h2⟩ := h
        exact ⟨_, _, op_mapUpdate _ _ _ _ s zd d l k h1 hx hst hi hy, h2⟩
      · exact h.elim
    · exact h.elim
  · exact h.elim

omit hT in
theorem nil_of_list {σ : Sig} {v : Value} {sz : Nat} {xs : List (List D)} (h : Rep σ v (.list sz xs)) : ∃ a n c, v = .slice a n c ∧ (a = none → xs = []) := by
  cases h with
  | nil _ => exact ⟨_, _, _, rfl, fun _ => rfl⟩
  | list => exact ⟨_, _, _, rfl, fun h => by cases h⟩

omit hT in
theorem op_eql_nil {t e ty : TypeId} {x : Operand} {E : Operand → AV} {st : List AO} {K : KO} {sz : Nat} {xs : List (List D)} (hu : P.underlying t = some (.slice e)) (hy : E (.const (.slice none 0 0)) = .nils) (hx : ∀ σ gh u, RepA σ gh st u (E x) → Rep σ u (.list sz xs))
    (h1 : xs = [] → K (.bool true) st) (h2 : K (.bool false) st) : OpN P (.binOp .eql t x (.const (.slice none 0 0)) ty) E st K := by
  intro o ho w0 σ0 σ gh ρ w hb hρ
  have hv := hx _ _ _ (hρ x (by simp [Op.operands]))
  obtain ⟨a, n, c, hv, hn⟩ := nil_of_list hv
  have hc := hρ (.const (.slice none 0 0)) (by simp [Op.operands])
  rw [hy] at hc
  have hc := nils_val hc
  have hg : eqGuard .eql t x (.const (.slice none 0 0)) (.slice a n c) (.slice none 0 0) = pure () := rfl
  have hrun : (execOp ρ o).run P w = .ok (.value (.bool a.isNone)) w := by
    simp [execOp, ho, hv, hc, hg, Lib.run_eql_slice_nil w t e a n c 0 0 hu]
  rw [hrun]
  cases a with
  | none => exact ⟨.bool true, st, h1 (hn rfl), σ, gh, .refl hb, RepA_of_sc rfl⟩
  | some a => exact ⟨.bool false, st, h2, σ, gh, .refl hb, RepA_of_sc rfl⟩

omit hT in
theorem OpN.mono {op : Op} {E : Operand → AV} {st : List AO} {V W : AV → List AO → Prop} (h : OpN P op E st V) (k : ∀ v st', V v st' → W v st') : OpN P op E st W :=
  fun o ho w0 σ0 σ gh ρ w hb hρ => let ⟨v, st', h1, h2⟩ := h o ho w0 σ0 σ gh ρ w hb hρ; ⟨v, st', k _ _ h1, h2⟩

theorem vcOp2_sound {op : Op} {env : Env} {st : List AO} {K : KO} (h : vcOp2 P T op (evalE env) st K) : OpN P op (evalE env) st K := by
  unfold vcOp2 at h
  split at h
  · split at h
    · rename_i α sz enc z xs hk hx
      refine op_eql_nil (sz := sz) (xs := xs.map enc) (hT.kslice _ _ hk) rfl (fun σ gh u hu => ?_) (fun e => h.1 (List.map_eq_nil_iff.1 e)) h.2
      rw [hx] at hu
      cases (hu : Rep σ u (.tl _ _ _ _ _)) with
      | tl hu => exact hu
    · rename_i hk hx
      exact op_eql_nil (hT.kslice _ _ hk) rfl (fun σ gh u hu => by rw [hx] at hu; exact hu) h.1 h.2
    · rename_i hk hx
      refine OpS.n (op_pure fun o ho w0 σ0 σ gh ρ w hb hρ => ?_) h
      have hv := hρ _ (by simp [Op.operands]; exact .inl rfl)
      have hc := hρ (.const (.slice none 0 0)) (by simp [Op.operands])
      rw [hx] at hv
      have hv := nils_val hv
      have hc := nils_val (show RepA σ gh st _ .nils from hc)
      have hg : ∀ t x y, eqGuard .eql t x y (.slice none 0 0) (.slice none 0 0) = pure () := fun _ _ _ => rfl
      have hr := Lib.run_eql_slice_nil w _ _ none 0 0 0 0 (hT.kslice _ _ hk)
      exact ⟨.bool true, by simp [execOp, ho, hv, hc, hg, hr], RepA_of_sc rfl⟩
    · exact h.elim
  · obtain ⟨v, st', h1, h2⟩ := vcOp_sound hT h
    exact h1.n h2

def dstOk (N : Fm) (l : List Oper) : Prop := ∀ o ∈ l, ∀ d, o.dst = some d → d < N.n

theorem vcL_sound {ops : List Oper} : ∀ {l : List Oper} {env : Env} {st : List AO} {K : Env → List AO → Prop}, dstOk N l → vcL P T N ops l env st K → WPL P N ops.toArray l env st K
  | [], env, st, K, _, h => WPL_nil h
  | o :: rest, env, st, K, hd, h => by
    have hd0 : ∀ d, o.dst = some d → d < N.n := hd o (by simp)
    have hdr : dstOk N rest := fun o' ho' => hd o' (by simp [ho'])
    obtain ⟨dst, op, ty, pos, after, guard⟩ := o
    unfold vcL at h
    split at h
    · rename_i hg
      simp only at hg
      subst hg
      exact WPL_opN hd0 ((vcOp2_sound hT h).mono fun v st' h2 => vcL_sound hdr h2)
    · rename_i j want hg
      simp only at hg
      subst hg
      split at h
      · rename_i oj hj
        split at h
        · rename_i d hdj
          split at h
          · rename_i b hb
            obtain ⟨hdN, h1, h2⟩ := h
            refine WPL_guard (b := b) (by simpa using hj) hdj hdN hb (fun e => ?_) (fun e => ⟨hd0, vcL_sound hdr (h2 e)⟩)
            obtain ⟨v, st', h3, h4⟩ := vcOp_sound hT (h1 e)
            exact ⟨v, st', h3, hd0, vcL_sound hdr h4⟩
          · exact h.elim
        · exact h.elim
      · exact h.elim

theorem vcQ_sound {ops : List Oper} {st : List AO} : ∀ {l : List Oper} {env : Env} {K : Env → Prop}, dstOk N l → vcQ P T N ops st l env K → WQ P N ops.toArray st K l env
  | [], env, K, _, h => WQ_nil h
  | o :: rest, env, K, hd, h => by
    have hd0 : ∀ d, o.dst = some d → d < N.n := hd o (by simp)
    have hdr : dstOk N rest := fun o' ho' => hd o' (by simp [ho'])
    obtain ⟨dst, op, ty, pos, after, guard⟩ := o
    unfold vcQ at h
    split at h
    · rename_i hg
      simp only at hg
      subst hg
      obtain ⟨v, st', h1, h2, h3⟩ := vcOp_sound hT h
      subst h2
      exact WQ_op h1 hd0 (vcQ_sound hdr h3)
    · rename_i j want hg
      simp only at hg
      subst hg
      split at h
      · rename_i oj hj
        split at h
        · rename_i d hdj
          split at h
          · rename_i b hb
            obtain ⟨hdN, h1, h2⟩ := h
            refine WQ_guard (b := b) (by simpa using hj) hdj hdN hb hd0 (fun e => ?_) (fun e => vcQ_sound hdr (h2 e))
            obtain ⟨v, st', h3, h4, h5⟩ := vcOp_sound hT (h1 e)
            subst h4
            exact ⟨v, h3, vcQ_sound hdr h5⟩
          · exact h.elim
        · exact h.elim
      · exact h.elim

theorem vc_sound : ∀ {c : Code} {env : Env} {st : List AO} {Q : Post}, codeOk N c = true → vc P T N c env st Q → WP P N c env st Q := by
  intro c
  induction c with
  | skip => intro env st Q _ h; exact WP_skip h
  | label l => intro env st Q _ h; exact WP_label h
  | exit l => intro env st Q _ h; exact WP_exit h
  | goto l => intro env st Q _ h; exact WP_goto h
  | ret => intro env st Q _ h; exact WP_ret h
  | seq x y ihx ihy =>
    intro env st Q hok h
    simp only [codeOk, Bool.and_eq_true] at hok
    cases x with
    | label l => exact h
    | _ =>
      refine WP_seq (WP_mono (ihx hok.1 h) fun e env st hq => ?_)
      cases e with
      | normal => exact ihy hok.2 hq
      | _ => exact hq
  | cond c x y ihx ihy =>
    intro env st Q hok h
    simp only [codeOk, Bool.and_eq_true] at hok
    unfold vc at h
    split at h
    · rename_i b hb; exact WP_cond hb (fun e => ihx hok.1 (h.1 e)) (fun e => ihy hok.2 (h.2 e))
    · exact h.elim
  | block id c ih => intro env st Q hok h; exact WP_block (ih hok h)
  | region id ops draw =>
    intro env st Q hok h
    simp only [codeOk, Bool.and_eq_true, Array.all_eq_true_iff_forall_mem] at hok
    have hd : dstOk N ops.toList := fun o ho d hdo => by
      have := hok.1 o (by simpa using ho)
      rw [hdo] at this
      simpa using this
    obtain ⟨l⟩ := ops
    cases draw with
    | false => exact WP_region (vcL_sound hT hd h)
    | true => exact WP_draw hT.mixed (by simpa using hok.2) (vcQ_sound hT hd h)
  | _ => intro env st Q _ h; exact h

end
end Go.Proofs.Nw.K
