/- K7: append; slices and structs built; rows written in place. -/
import Derived.Test.YtjfpnnmagnljnaaNwK6
open Go Go.RowKit
set_option linter.unusedVariables false
set_option linter.unusedSimpArgs false
namespace Go.Proofs.Nw.K

/-- rows of cells, represented -/
def RepRows (σ : Sig) (vals : List Value) (sz : Nat) (xs : List (List D)) : Prop :=
  (∀ (i : Nat) x, xs[i]? = some x → x.length = sz) ∧ ∀ (i j : Nat) x d, xs[i]? = some x → x[j]? = some d → ∃ v, vals[i * sz + j]? = some v ∧ Rep σ v d

theorem RepRows.append {σ : Sig} {a b : List Value} {sz : Nat} {xs ys} (h : RepRows σ a sz xs) (hl : a.length = xs.length * sz) (k : RepRows σ b sz ys) : RepRows σ (a ++ b) sz (xs ++ ys) := by
  refine ⟨fun i x hx => ?_, fun i j x d hx hd => ?_⟩
  · rw [List.getElem?_append] at hx
    split at hx
    · exact h.1 _ _ hx
    · exact k.1 _ _ hx
  · rw [List.getElem?_append] at hx
    have hj : ∀ {zs : List (List D)} {i : Nat}, (∀ (i : Nat) x, zs[i]? = some x → x.length = sz) → zs[i]? = some x → j < sz := fun hz hx => by
      rw [← hz _ _ hx]; exact (List.getElem?_eq_some_iff.1 hd).1
    split at hx
    · rename_i hi
      obtain ⟨v, h1, h2⟩ := h.2 i j x d hx hd
      exact ⟨v, by rw [List.getElem?_append_left (List.getElem?_eq_some_iff.1 h1).1]; exact h1, h2⟩
    · rename_i hi
      obtain ⟨v, h1, h2⟩ := k.2 _ j x d hx hd
      refine ⟨v, ?_, h2⟩
      have : a.length ≤ i * sz + j := by rw [hl]; exact Nat.le_trans (Nat.mul_le_mul_right _ (by omega)) (Nat.le_add_right _ _)
      rw [List.getElem?_append_right this, hl]
      rw [← h1, Nat.sub_mul]
      congr 1
      have := Nat.mul_le_mul_right sz (show xs.length ≤ i by omega)
      omega

theorem RepRows.take {σ : Sig} {a : List Value} {sz : Nat} {xs} (h : RepRows σ a sz xs) (n : Nat) : RepRows σ (a.take (n * sz)) sz (xs.take n) := by
  refine ⟨fun i x hx => ?_, fun i j x d hx hd => ?_⟩
  · rw [List.getElem?_take] at hx
    split at hx
    · exact h.1 _ _ hx
    · cases hx
  · rw [List.getElem?_take] at hx
    split at hx
    · rename_i hi
      obtain ⟨v, h1, h2⟩ := h.2 i j x d hx hd
      have hj : j < sz := by rw [← h.1 _ _ hx]; exact (List.getElem?_eq_some_iff.1 hd).1
      refine ⟨v, ?_, h2⟩
      rw [List.getElem?_take_of_lt ?_]
      · exact h1
      · calc i * sz + j < i * sz + sz := by omega
          _ = (i + 1) * sz := by rw [Nat.add_mul]; omega
          _ ≤ n * sz := Nat.mul_le_mul_right _ (by omega)
    · cases hx

theorem RepRows.drop {σ : Sig} {a : List Value} {sz : Nat} {xs} (h : RepRows σ a sz xs) (n : Nat) : RepRows σ (a.drop (n * sz)) sz (xs.drop n) := by
  refine ⟨fun i x hx => h.1 _ _ (by rw [List.getElem?_drop] at hx; exact hx), fun i j x d hx hd => ?_⟩
  rw [List.getElem?_drop] at hx
  obtain ⟨v, h1, h2⟩ := h.2 _ j x d hx hd
  refine ⟨v, ?_, h2⟩
  rw [List.getElem?_drop, ← h1]
  congr 1
  rw [Nat.add_mul]; omega

/-- a source of elements -/
inductive Src (st : List AO) : AV → Nat → List (List D) → Prop
  | list {sz ys} : Src st (.list sz ys) sz ys
  | nils {sz} : Src st .nils sz []
  | h {s k e sz lo n xs ys} (hst : st[s]? = some (.row k e sz xs)) (hy : ys = (xs.drop lo).take n) : Src st (.h s k lo n) sz ys

theorem src_cells {w0 : World} {σ0 σ gh st w} (hb : Base w0 σ0 σ gh st w) {u : Value} {a : AV} {sz : Nat} {ys} (h : RepA σ gh st u a) (hs : Src st a sz ys) :
    ∃ A c, u = .slice A ys.length c ∧ (ys = [] ∨ ∃ ad news, A = some ad ∧ news.length = ys.length * sz ∧ (∀ j v, news[j]? = some v → w.cell? (ad.add j) = some v) ∧ (∀ v ∈ news, v.oneCell' = true) ∧ RepRows σ news sz ys) := by
  cases hs with
  | nils => exact ⟨none, 0, nils_val h, .inl rfl⟩
  | list =>
    have h : Rep σ u (.list sz ys) := h
    cases h with
    | nil _ => exact ⟨_, _, rfl, .inl rfl⟩
    | @list b off n c _ _ val hn h0 hc hm hsz hcell hval =>
      subst hn
      have hdiv : ∀ q, q < ys.length * sz → q / sz < ys.length ∧ q % sz < sz ∧ q / sz * sz + q % sz = q := fun q hq => by
        have hp : 0 < sz := by rcases Nat.eq_zero_or_pos sz with e | e; (subst e; simp at hq); exact e
        exact ⟨(Nat.div_lt_iff_lt_mul hp).2 hq, Nat.mod_lt _ hp, by rw [Nat.mul_comm]; exact Nat.div_add_mod q sz⟩
      have hnews : ∀ j v, ((List.range (ys.length * sz)).map fun q => val (q / sz) (q % sz))[j]? = some v → j < ys.length * sz ∧ v = val (j / sz) (j % sz) := fun j v hv => by
        simp only [List.getElem?_map, Option.map_eq_some_iff] at hv
        obtain ⟨j', hj', rfl⟩ := hv
        obtain ⟨h3, h4⟩ := List.getElem?_eq_some_iff.1 hj'
        simp at h3 h4
        subst h4
        exact ⟨h3, rfl⟩
      have hat : ∀ q, q < ys.length * sz → w.cell? ⟨b, off + q, none⟩ = some (val (q / sz) (q % sz)) ∧ (val (q / sz) (q % sz)).oneCell' = true := fun q hq => by
        obtain ⟨q1, q2, q3⟩ := hdiv q hq
        have := hb.sl.cell _ _ _ (hcell _ _ q1 q2)
        rw [Nat.add_assoc, q3] at this
        exact this
      refine ⟨_, _, rfl, .inr ⟨⟨b, off, none⟩, (List.range (ys.length * sz)).map fun q => val (q / sz) (q % sz), rfl, by simp, fun j v hv => ?_, fun v hv => ?_, hsz, fun i j x d hx hd => ?_⟩⟩
      · obtain ⟨h1, h2⟩ := hnews j v hv
        rw [add_lit, h2]
        exact (hat j h1).1
      · obtain ⟨j, hj, rfl⟩ := List.getElem_of_mem hv
        obtain ⟨h1, h2⟩ := hnews j _ (List.getElem?_eq_getElem hj)
        rw [h2]
        exact (hat j h1).2
      · have hj : j < sz := by rw [← hsz _ _ hx]; exact (List.getElem?_eq_some_iff.1 hd).1
        have hi : i < ys.length := (List.getElem?_eq_some_iff.1 hx).1
        have hlt : i * sz + j < ys.length * sz := by
          calc i * sz + j < i * sz + sz := by omega
            _ = (i + 1) * sz := by rw [Nat.add_mul]; omega
            _ ≤ ys.length * sz := Nat.mul_le_mul_right _ (by omega)
        refine ⟨val i j, ?_, hval i j x d hx hd⟩
        have e1 : (i * sz + j) / sz = i := by
          rw [Nat.mul_comm, Nat.mul_add_div (by omega), Nat.div_eq_of_lt hj]; rfl
        have e2 : (i * sz + j) % sz = j := by rw [Nat.mul_comm, Nat.mul_add_mod, Nat.mod_eq_of_lt hj]
        simp [hlt, e1, e2]
  | @h s k e _ lo n xs _ hst hy =>
    obtain ⟨g, hg, hR, A, c, hv⟩ := h_val hb hst h
    obtain ⟨vals, hown, hsz, hval, _, hone⟩ := hb.obj s _ _ hst hg
    have hlen : ys.length = n := by subst hy; simp; have := hR.1; omega
    have hrows : RepRows σ vals sz xs := ⟨hsz, hval⟩
    refine ⟨A, c, by rw [hlen]; exact hv, ?_⟩
    by_cases hn : n = 0
    · exact .inl (List.eq_nil_of_length_eq_zero (by omega))
    · right
      have hvl := hown.1
      -- the address
      have : ∃ b, gh[s]? = some g ∧ blkOf g = some b ∧ A = some ⟨b, lo * sz, none⟩ ∧ ∃ m c', g = .slice (some ⟨b, 0, none⟩) m c' := by
        obtain ⟨h0, ⟨a1, a2, a3⟩ | ⟨b, m, c2, a1, a2, ⟨a3, _⟩ | a3⟩⟩ := hR
        · rcases hown.2 with ⟨e1, e2⟩ | ⟨b, cap, cur, e1, _⟩
          · omega
          · rw [hv] at a3
            rw [e1] at a3
            cases a3
            exact ⟨b, hg, by simp [e1, blkOf], by simp [a1], _, _, e1⟩
        · omega
        · rw [hv] at a3
          cases a3
          exact ⟨b, hg, by simp [a1, blkOf], rfl, _, _, a1⟩
      obtain ⟨b, _, hblk, hA, m, c', hgv⟩ := this
      have hcells := hown.cells (g := b) (by simp [hgv, Value.ownBlock])
      refine ⟨_, ((vals.drop (lo * sz)).take (n * sz)), hA, ?_, fun j v hj => ?_, fun v hv' => hone v (List.mem_of_mem_drop (List.mem_of_mem_take hv')), ?_⟩
      · have := Nat.mul_le_mul_right sz hR.1
        rw [Nat.add_mul] at this
        simp [hvl, hlen]; omega
      · rw [add_lit]
        rw [List.getElem?_take] at hj
        split at hj
        · rw [List.getElem?_drop] at hj
          have := hcells _ _ hj
          rwa [add_lit, Nat.zero_add] at this
        · cases hj
      · subst hy
        exact (hrows.drop lo).take n

/-- what append asks of the tables -/
def appT (P : Program) (t : TypeId) : Option (TypeId × Nat × Nat) :=
  match P.underlying t with
  | some (.slice e) => match P.info? e with
    | some i => match i.zero with
      | some z => if z.cells.size = i.size ∧ 0 < i.size then some (e, i.size, i.bytes) else none
      | none => none
    | none => none
  | _ => none

theorem appT_spec {P : Program} {t e : TypeId} {sz by_ : Nat} (h : appT P t = some (e, sz, by_)) : P.underlying t = some (.slice e) ∧ ∃ i z, P.info? e = some i ∧ i.zero = some z ∧ i.size = sz ∧ i.bytes = by_ ∧ z.cells.size = sz ∧ 0 < sz := by
  unfold appT at h
  split at h
  · rename_i e' hu
    split at h
    · rename_i i hi
      split at h
      · rename_i z hz
        split at h
        · rename_i hc
          cases h
          exact ⟨hu, i, z, hi, hz, rfl, rfl, hc.1, hc.2⟩
        · cases h
      · cases h
    · cases h
  · cases h

section
variable {P : Program} {E : Operand → AV} {st : List AO}

/-- append's run, onto what is owned -/
theorem run_append_src {w0 : World} {σ0 σ gh w} (hb : Base w0 σ0 σ gh st w) {t ty e : TypeId} {sz by_ : Nat} (ht : appT P t = some (e, sz, by_)) {base : Nat} {v : Value} {n : Nat} {vals : List Value} (hown : w.ownsRow base e sz v n vals)
    {u : Value} {a : AV} {ys} (h : RepA σ gh st u a) (hs : Src st a sz ys) (hbound : (n + ys.length) * by_ ≤ 140737488355328) (hmax : n + ys.length ≤ maxLen) (hbase : base ≤ w.heap.size) :
    ∃ v' w' news, (Builtin.append_ #[t, t] ty #[v, u]).run P w = .ok v' w' ∧ w'.ownsRow base e sz v' (n + ys.length) (vals ++ news) ∧ w.grownBy w' v.ownBlock ∧ (v'.ownBlock = v.ownBlock ∨ v'.ownBlock = some w.heap.size) ∧
      RepRows σ news sz ys ∧ (∀ x ∈ news, x.oneCell' = true) := by
  obtain ⟨hu, i, z, hi, hz, hsz, hby, hzs, hpos⟩ := appT_spec ht
  obtain ⟨A, c, hv, hc⟩ := src_cells hb h hs
  rcases hc with hnil | ⟨ad, news, hA, hl, hnews, hone, hrows⟩
  · subst hnil
    refine ⟨v, w, [], ?_, by simpa using hown, ⟨rfl, rfl, rfl, Nat.le_refl _, fun _ _ _ => rfl⟩, .inl rfl, ⟨fun i x hx => by simp at hx, fun i j x d hx => by simp at hx⟩, by simp⟩
    have hshape : ∃ A' m' c', v = .slice A' m' c' ∧ m' ≤ c' := by
      rcases hown.2 with ⟨rfl, _⟩ | ⟨g, cap, cur, rfl, _, _, h, _⟩
      · exact ⟨_, _, _, rfl, by omega⟩
      · exact ⟨_, _, _, rfl, h⟩
    obtain ⟨A', m', c', rfl, hmc⟩ := hshape
    have hfc : (Builtin.firstCells sz 0 (.slice A 0 c)).run P w = .ok #[] w := by
      cases A <;> simp [Builtin.firstCells, loadCells, loadCellsFrom]
    rw [hv]
    cases A' <;> simp [Builtin.append_, run_underlying hu, sizeOf, typeInfo, hi, hsz, Builtin.lenOf, hmc, hfc, storeCells]
  · obtain ⟨v', w', h1, h2, h3, _, h5⟩ := run_append_own_at (P := P) w base t ty e i z sz by_ hu hi hz hsz hby hzs hpos v n vals hown ad ys.length c news hl hnews hone hmax hbound hbase
    exact ⟨v', w', news, by rw [hv, hA]; exact h1, h2, h3, h5, hrows, hone⟩

theorem ownsRow_lower {w : World} {base base' : Nat} {e : TypeId} {sz : Nat} {v : Value} {n : Nat} {xs : List Value} (h : w.ownsRow base e sz v n xs) (hb : base' ≤ base) : w.ownsRow base' e sz v n xs := by
  refine ⟨h.1, ?_⟩
  rcases h.2 with h | ⟨g, cap, cur, h1, h2, rest⟩
  · exact .inl h
  · exact .inr ⟨g, cap, cur, h1, by omega, rest⟩

theorem ownBlk {w : World} {base : Nat} {e : TypeId} {sz : Nat} {v : Value} {n : Nat} {xs : List Value} (h : w.ownsRow base e sz v n xs) : blkOf v = v.ownBlock := by
  rcases h.2 with ⟨rfl, _⟩ | ⟨g, cap, cur, rfl, _⟩ <;> rfl

/-- what appending a value comes to -/
def AppendsAt (P : Program) (w : World) (t u ty e : TypeId) (sz : Nat) (σ : Sig) (val : Value) (ys : List (List D)) (n : Nat) : Prop :=
  ∀ base v vals, w.ownsRow base e sz v n vals → base ≤ w.heap.size →
    ∃ v' w' news, (Builtin.append_ #[t, u] ty #[v, val]).run P w = .ok v' w' ∧ w'.ownsRow base e sz v' (n + ys.length) (vals ++ news) ∧ w.grownBy w' v.ownBlock ∧ (v'.ownBlock = v.ownBlock ∨ v'.ownBlock = some w.heap.size) ∧
      RepRows σ news sz ys ∧ (∀ x ∈ news, x.oneCell' = true)

/-- onto nothing: a row of one's own begins -/
theorem op_append_nils_ (t u e : TypeId) (sz : Nat) (x y : Operand) (ys : List (List D)) (hx : E x = .nils)
    (hA : ∀ w0 σ0 σ gh w val ty, Base w0 σ0 σ gh st w → RepA σ gh st val (E y) → AppendsAt P w t u ty e sz σ val ys 0) :
    OpS P (.call { callee := .builtin .append, args := #[x, y], argTypes := #[t, u] }) E st (.h st.length 0 0 ys.length) (st ++ [.row 0 e sz ys]) := by
  intro o ho w0 σ0 σ gh ρ w hb hρ
  have h1 := hρ x (by simp [Op.operands, Call.operands])
  have h2 := hρ y (by simp [Op.operands, Call.operands])
  rw [hx] at h1
  have h1 := nils_val h1
  obtain ⟨v', w', news, hr, hown, hg, hat, hrows, hone⟩ := hA w0 σ0 σ gh w _ o.type hb h2 _ _ _ (World.ownsRow_nil w w.heap.size e sz) (Nat.le_refl _)
  simp only [Nat.zero_add] at hown
  have : (execOp ρ o).run P w = .ok (.value v') w' := by
    simp [execOp, ho, resolve, invoke, builtin, h1, hr]
  rw [this]
  simp only [Value.ownBlock] at hg hat
  have hbelow : w0.heap.size ≤ w.heap.size := hb.below.size
  have hbk := ownBlk hown
  have hbl : ∀ b, blkOf v' = some b → w.heap.size ≤ b ∧ b < w'.heap.size := fun b hb' => hown.lt b (by rw [← hbk]; exact hb')
  have hf := hb.push hg v' (.row 0 e sz ys) hbl
    ⟨news, by simpa using ownsRow_lower hown hbelow, hrows.1, hrows.2, fun b hb' => hb.sl.fresh (hbl b hb').1, hone⟩
  refine ⟨σ, _, hf, v', _, by rw [← hb.len]; simp, by simp; rfl, fun k' e' sz' xs' heq => ?_⟩
  cases heq
  exact ⟨Nat.le_refl _, fun _ => ⟨by omega, .inl ⟨rfl, rfl, rfl⟩⟩⟩

/-- onto a row of one's own -/
theorem op_append_h_ (t u e : TypeId) (sz : Nat) (x y : Operand) (s k n : Nat) (xs ys : List (List D)) (hx : E x = .h s k 0 n) (hst : st[s]? = some (.row k e sz xs))
    (hA : ∀ w0 σ0 σ gh w val ty, Base w0 σ0 σ gh st w → RepA σ gh st val (E y) → AppendsAt P w t u ty e sz σ val ys n) :
    OpS P (.call { callee := .builtin .append, args := #[x, y], argTypes := #[t, u] }) E st (.h s (k + 1) 0 (n + ys.length)) (st.set s (.row (k + 1) e sz (xs.take n ++ ys))) := by
  intro o ho w0 σ0 σ gh ρ w hb hρ
  have h1 := hρ x (by simp [Op.operands, Call.operands])
  have h2 := hρ y (by simp [Op.operands, Call.operands])
  rw [hx] at h1
  obtain ⟨g, hgs, hR, A, c, hv⟩ := h_val hb hst h1
  obtain ⟨vals, hown, hsz, hval, huns, hone⟩ := hb.obj s _ _ hst hgs
  have hslt : s < st.length := (List.getElem?_eq_some_iff.1 hst).1
  have hn : n ≤ xs.length := by have := hR.1; omega
  -- the handle owns what it shows
  have hown' : w.ownsRow w0.heap.size e sz (ρ x) n (vals.take (n * sz)) ∧ (ρ x).ownBlock = g.ownBlock := by
    obtain ⟨h0, ⟨a1, a2, a3⟩ | ⟨b, m, c2, a1, a2, ⟨a3, a4, _⟩ | a3⟩⟩ := hR
    · rw [a3, a2]
      refine ⟨?_, rfl⟩
      rw [← hown.1, List.take_length]; exact hown
    · omega
    · rw [a3]
      rcases hown.2 with ⟨e1, e2⟩ | ⟨b', cap, cur, e1, e2, e3, e4, e5, e6, e7⟩
      · rw [a1] at e1; cases e1
      · rw [a1] at e1
        cases e1
        refine ⟨⟨?_, .inr ⟨b, c2, cur, by simp, e2, e3, by omega, e5, e6, ?_⟩⟩, by simp [a1, Value.ownBlock]⟩
        · have := Nat.mul_le_mul_right sz hn
          rw [List.length_take, hown.1, Nat.min_eq_left this]
        · rw [← e7, List.take_take]
          congr 1
          have := Nat.mul_le_mul_right sz hn
          omega
  obtain ⟨hown', hblk⟩ := hown'
  obtain ⟨v', w', news, hr, hown2, hg, hat, hrows, hone2⟩ := hA w0 σ0 σ gh w _ o.type hb h2 _ _ _ hown' hb.below.size
  have : (execOp ρ o).run P w = .ok (.value v') w' := by
    simp [execOp, ho, resolve, invoke, builtin, hr]
  rw [this]
  have hbg := ownBlk hown
  have hbk := ownBlk hown2
  have keep : ∀ v a, RepA σ gh st v a → RepA σ (gh.set s v') (st.set s (.row (k + 1) e sz (xs.take n ++ ys))) v a := by
    intro v a ha
    have lookg : ∀ (t : Nat) g1, gh[t]? = some g1 → t ≠ s → (gh.set s v')[t]? = some g1 := fun t g1 h h' => by rw [List.getElem?_set, if_neg (fun e => h' e.symm)]; exact h
    have looks : ∀ (t : Nat) o1, st[t]? = some o1 → t ≠ s → (st.set s (.row (k + 1) e sz (xs.take n ++ ys)))[t]? = some o1 := fun t o1 h h' => by rw [List.getElem?_set, if_neg (fun e => h' e.symm)]; exact h
    have hgl : s < gh.length := by rw [hb.len]; exact hslt
    have notptr : ∀ b, g ≠ .pointer (some b) := fun b e => by rcases hown.2 with ⟨e1, _⟩ | ⟨_, _, _, e1, _⟩ <;> rw [e] at e1 <;> cases e1
    have notmap : ∀ b, g ≠ .map (some b) := fun b e => by rcases hown.2 with ⟨e1, _⟩ | ⟨_, _, _, e1, _⟩ <;> rw [e] at e1 <;> cases e1
    cases a with
    | v x => exact ha
    | ptr t off =>
      obtain ⟨b, a1, a2⟩ := ha
      refine ⟨b, lookg _ _ a1 (fun e => ?_), a2⟩
      subst e; rw [hgs] at a1; cases a1; exact notptr _ rfl
    | h t k2 lo2 n2 =>
      obtain ⟨g1, o1, a1, a2, a3⟩ := ha
      by_cases et : t = s
      · subst et
        rw [hst] at a2
        cases a2
        refine ⟨v', _, by simp [hgl], by simp [hslt]; rfl, fun k' e' sz' xs' heq => ?_⟩
        cases heq
        have := (a3 _ _ _ _ rfl).1
        exact ⟨by omega, fun e => by omega⟩
      · exact ⟨g1, o1, lookg _ _ a1 et, looks _ _ a2 et, a3⟩
    | ep t k2 i2 off2 =>
      obtain ⟨g1, o1, a1, a2, a3⟩ := ha
      by_cases et : t = s
      · subst et
        rw [hst] at a2
        cases a2
        refine ⟨v', _, by simp [hgl], by simp [hslt]; rfl, fun k' e' sz' xs' heq => ?_⟩
        cases heq
        have := (a3 _ _ _ _ rfl).1
        exact ⟨by omega, fun e => by omega⟩
      · exact ⟨g1, o1, lookg _ _ a1 et, looks _ _ a2 et, a3⟩
    | omap t =>
      obtain ⟨a1, r, a2⟩ := ha
      refine ⟨lookg _ _ a1 (fun e => ?_), r, a2⟩
      subst e; rw [hgs] at a1; cases a1; exact notmap _ a2
    | tup vs => exact ha
    | clo f caps =>
      obtain ⟨us, a1, a2, a3⟩ := ha
      refine ⟨us, a1, a2, fun i u t hu ht' => ?_⟩
      obtain ⟨b1, b, b2⟩ := a3 i u t hu ht'
      refine ⟨lookg _ _ b1 (fun e => ?_), b, b2⟩
      subst e; rw [hgs] at b1; cases b1; exact notptr _ b2
    | junk => trivial
  have hlen : (xs.take n ++ ys).length = n + ys.length := by simp; omega
  have hf := hb.turn (w' := w') hst hgs (by simp) (by rw [hbg, ← hblk]; exact hg) v' (.row (k + 1) e sz (xs.take n ++ ys)) (fun b hb' => ?_) ?_ keep
  · refine ⟨σ, _, hf, v', _, by simp [hb.len, hslt], by simp [hslt]; rfl, fun k' e' sz' xs' heq => ?_⟩
    cases heq
    exact ⟨Nat.le_refl _, fun _ => ⟨by omega, .inl ⟨rfl, hlen.symm, rfl⟩⟩⟩
  · rw [hbk] at hb'
    rcases hat with h | h
    · left; rw [hbg, ← hblk, ← h]; exact hb'
    · right
      rw [h] at hb'
      cases hb'
      exact ⟨Nat.le_refl _, (hown2.lt _ h).2⟩
  · refine ⟨vals.take (n * sz) ++ news, by rw [hlen]; exact hown2, ?_, ?_, fun b hb' => ?_, ?_⟩
    · exact ((RepRows.take ⟨hsz, hval⟩ n).append (by rw [hown'.1, List.length_take, Nat.min_eq_left hn]) hrows).1
    · exact ((RepRows.take ⟨hsz, hval⟩ n).append (by rw [hown'.1, List.length_take, Nat.min_eq_left hn]) hrows).2
    · rw [hbk] at hb'
      rcases hat with h | h
      · exact huns b (by rw [hbg, ← hblk, ← h]; exact hb')
      · rw [h] at hb'; cases hb'; exact hb.sl.fresh (Nat.le_refl _)
    · intro v hv'
      rcases List.mem_append.1 hv' with h | h
      · exact hone v (List.mem_of_mem_take h)
      · exact hone2 v h

theorem op_append_nils (t e : TypeId) (sz by_ : Nat) (x y : Operand) (ys : List (List D)) (ht : appT P t = some (e, sz, by_)) (hx : E x = .nils) (hy : Src st (E y) sz ys)
    (hbound : ys.length * by_ ≤ 140737488355328) (hmax : ys.length ≤ maxLen) :
    OpS P (.call { callee := .builtin .append, args := #[x, y], argTypes := #[t, t] }) E st (.h st.length 0 0 ys.length) (st ++ [.row 0 e sz ys]) :=
  op_append_nils_ t t e sz x y ys hx fun w0 σ0 σ gh w val ty hb h2 base v vals hown hbase => run_append_src (P := P) (ty := ty) hb ht hown h2 hy (by simpa using hbound) (by simpa using hmax) hbase

theorem op_append_h (t e : TypeId) (sz by_ : Nat) (x y : Operand) (s k n : Nat) (xs ys : List (List D)) (ht : appT P t = some (e, sz, by_)) (hx : E x = .h s k 0 n) (hst : st[s]? = some (.row k e sz xs)) (hy : Src st (E y) sz ys)
    (hbound : (n + ys.length) * by_ ≤ 140737488355328) (hmax : n + ys.length ≤ maxLen) :
    OpS P (.call { callee := .builtin .append, args := #[x, y], argTypes := #[t, t] }) E st (.h s (k + 1) 0 (n + ys.length)) (st.set s (.row (k + 1) e sz (xs.take n ++ ys))) :=
  op_append_h_ t t e sz x y s k n xs ys hx hst fun w0 σ0 σ gh w val ty hb h2 base v vals hown hbase => run_append_src (P := P) (ty := ty) hb ht hown h2 hy hbound hmax hbase

end
end Go.Proofs.Nw.K
