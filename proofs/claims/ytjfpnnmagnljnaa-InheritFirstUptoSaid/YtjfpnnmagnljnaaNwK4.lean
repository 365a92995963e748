/- K4: operations on memory: addresses, loads, stores, new variables, slices. -/
import Derived.Test.YtjfpnnmagnljnaaNwK3
open Go Go.RowKit
set_option linter.unusedVariables false
set_option linter.unusedSimpArgs false
namespace Go.Proofs.Nw.K

/-! what the tables say of a type -/
def fieldOff (P : Program) (s : TypeId) (f : Nat) : Option Nat :=
  match P.underlying s with
  | some (.struct fs) => match fs[f]? with
    | some fl => match P.info? fl.type with
      | some i => if i.size = 0 then none else some fl.offset
      | none => none
    | none => none
  | _ => none

/-- of a type: its cells; is it a struct, or an array? -/
def ldT (P : Program) (t : TypeId) : Option (Nat × Bool) :=
  match P.underlying t, P.info? t with
  | some (.struct _), some i => some (i.size, true)
  | some (.array _ _), some i => some (i.size, true)
  | some _, some i => some (i.size, false)
  | _, _ => none

/-- a slice's element: its type, its cells -/
def elT (P : Program) (t : TypeId) : Option (TypeId × Nat) :=
  match P.underlying t with
  | some (.slice e) => match P.info? e with
    | some i => some (e, i.size)
    | none => none
  | _ => none

theorem fieldOff_run {P : Program} {s : TypeId} {f off : Nat} (h : fieldOff P s f = some off) (a : Addr) (w : World) :
    (Instr.fieldAt s (.pointer (some a)) f).run P w = .ok (.pointer (some (a.add off))) w := by
  unfold fieldOff at h
  split at h
  · rename_i fs hu
    split at h
    · rename_i fl hf
      split at h
      · rename_i i hi
        split at h
        · cases h
        · rename_i hs
          cases h
          simp [Instr.fieldAt, run_underlying hu, hf, Instr.sureAddr, fieldPlace, sizeOf, typeInfo, hi, hs]
      · cases h
    · cases h
  · cases h

theorem ldT_agg {P : Program} {t : TypeId} {n : Nat} (h : ldT P t = some (n, true)) (w : World) : (isAgg t).run P w = .ok true w ∧ (sizeOf t).run P w = .ok n w := by
  unfold ldT at h
  split at h <;> first | cases h | skip
  · rename_i hu hi; exact ⟨by simp [isAgg, run_underlying hu], by simp [sizeOf, typeInfo, hi]⟩
  · rename_i hu hi; exact ⟨by simp [isAgg, run_underlying hu], by simp [sizeOf, typeInfo, hi]⟩

theorem ldT_one {P : Program} {t : TypeId} {n : Nat} (h : ldT P t = some (n, false)) (w : World) : (isAgg t).run P w = .ok false w ∧ (sizeOf t).run P w = .ok n w := by
  unfold ldT at h
  split at h <;> first | cases h | skip
  rename_i d i h1 h2 hu hi
  refine ⟨?_, by simp [sizeOf, typeInfo, hi]⟩
  cases d <;> first | exact (h1 _ rfl).elim | exact (h2 _ _ rfl).elim | simp [isAgg, run_underlying hu]

theorem elT_spec {P : Program} {t e : TypeId} {sz : Nat} (h : elT P t = some (e, sz)) : P.underlying t = some (.slice e) ∧ ∃ i, P.info? e = some i ∧ i.size = sz := by
  unfold elT at h
  split at h
  · rename_i e' hu
    split at h
    · rename_i i hi
      cases h
      exact ⟨hu, i, hi, rfl⟩
    · cases h
  · cases h

theorem add_lit (b o n : Nat) : Addr.add ⟨b, o, none⟩ n = ⟨b, o + n, none⟩ := by
  unfold Addr.add
  split
  · subst_vars; rfl
  · rfl

/-- a variable of one cell, and one of many, read -/
theorem run_loadVar_one {P : Program} {t : TypeId} {n : Nat} (h : ldT P t = some (n, false)) {w : World} {a : Addr} {v : Value} (hc : w.cell? a = some v) : (loadVar t a).run P w = .ok v w := by
  simp [loadVar, (ldT_one h w).1, load, Sem.run, hc]

theorem run_loadVar_agg {P : Program} {t : TypeId} {n : Nat} (h : ldT P t = some (n, true)) {w : World} {b o : Nat} (vs : List Value) (hl : vs.length = n)
    (hc : ∀ j v, vs[j]? = some v → w.cell? ⟨b, o + j, none⟩ = some v) : (loadVar t ⟨b, o, none⟩).run P w = .ok (.agg vs.toArray) w := by
  have := run_loadCells_list (P := P) w ⟨b, o, none⟩ vs (fun j v hv => by rw [add_lit]; exact hc j v hv)
  rw [hl] at this
  simp [loadVar, (ldT_agg h w).1, (ldT_agg h w).2, this]

section
variable {P : Program} {E : Operand → AV} {st : List AO}

theorem op_fieldAddr_ptr (s : TypeId) (x : Operand) (f i off k : Nat) (hf : fieldOff P s f = some k) (hx : E x = .ptr i off) : OpS P (.fieldAddr s x f) E st (.ptr i (off + k)) st :=
  op_pure fun o ho w0 σ0 σ gh ρ w hb hρ => by
    have h1 := hρ x (by simp [Op.operands])
    rw [hx] at h1
    obtain ⟨b, h2, h3⟩ := h1
    exact ⟨.pointer (some ⟨b, off + k, none⟩), by simp [execOp, ho, h3, fieldOff_run hf, add_lit], b, h2, rfl⟩

theorem op_fieldAddr_ep (s : TypeId) (x : Operand) (f i v j off k : Nat) (hf : fieldOff P s f = some k) (hx : E x = .ep i v j off) (o0 : AO) (hst : st[i]? = some o0) (hrow : ∃ e sz xs, o0 = .row v e sz xs) :
    OpS P (.fieldAddr s x f) E st (.ep i v j (off + k)) st :=
  op_pure fun o ho w0 σ0 σ gh ρ w hb hρ => by
    have h1 := hρ x (by simp [Op.operands])
    rw [hx] at h1
    obtain ⟨g, o', h2, h3, h4⟩ := h1
    obtain ⟨e, sz, xs, rfl⟩ := hrow
    rw [hst] at h3
    cases h3
    obtain ⟨_, h5⟩ := h4 v e sz xs rfl
    obtain ⟨hj, b, m, c, h6, h7⟩ := h5 rfl
    refine ⟨.pointer (some ⟨b, j * sz + off + k, none⟩), by simp [execOp, ho, h7, fieldOff_run hf, add_lit], g, _, h2, hst, ?_⟩
    intro k' e' sz' xs' heq
    cases heq
    exact ⟨Nat.le_refl _, fun _ => ⟨hj, b, m, c, h6, by rw [Nat.add_assoc]⟩⟩

theorem ref_cells {σ : Sig} {gh} {u : Value} {cells : List D} (h : RepA σ gh st u (.d (.ref cells))) : ∃ (b off : Nat) (val : Nat → Value), u = .pointer (some ⟨b, off, none⟩) ∧
    (∀ j, j < cells.length → σ.cell b (off + j) = some (val j)) ∧ ∀ (j : Nat) d, cells[j]? = some d → Rep σ (val j) d := by
  have h : Rep σ u (.ref cells) := h
  cases h with
  | ref val h1 h2 => exact ⟨_, _, val, rfl, h1, h2⟩

theorem op_fieldAddr_ref (s : TypeId) (x : Operand) (f k : Nat) (cells : List D) (hf : fieldOff P s f = some k) (hx : E x = .d (.ref cells)) : OpS P (.fieldAddr s x f) E st (.d (.ref (cells.drop k))) st :=
  op_pure fun o ho w0 σ0 σ gh ρ w hb hρ => by
    have h1 := hρ x (by simp [Op.operands])
    rw [hx] at h1
    obtain ⟨b, off, val, h2, h3, h4⟩ := ref_cells h1
    refine ⟨.pointer (some ⟨b, off + k, none⟩), by simp [execOp, ho, h2, fieldOff_run hf, add_lit], Rep.ref (fun j => val (k + j)) (fun j hj => ?_) (fun j d hd => ?_)⟩
    · rw [Nat.add_assoc]
      exact h3 (k + j) (by simp at hj; omega)
    · exact h4 (k + j) d (by simpa using hd)

/-- an index's address, in a list that came in -/
theorem op_indexAddr (t e : TypeId) (sz : Nat) (x i : Operand) (k : IntKind) (n : Int) (xs : List (List D)) (cells : List D) (ht : elT P t = some (e, sz)) (hx : E x = .list sz xs) (hi : E i = .sc (.int k n))
    (h0 : 0 ≤ n) (hc : xs[n.toNat]? = some cells) : OpS P (.indexAddr t x i) E st (.d (.ref cells)) st :=
  op_pure fun o ho w0 σ0 σ gh ρ w hb hρ => by
    have h1 := hρ x (by simp [Op.operands])
    have h2 := hρ i (by simp [Op.operands])
    rw [hx] at h1
    rw [hi] at h2
    have h2 := RepA_sc h2
    have h1 : Rep σ (ρ x) (.list sz xs) := h1
    have hlt : n.toNat < xs.length := (List.getElem?_eq_some_iff.1 hc).1
    obtain ⟨hu, ti, hinfo, rfl⟩ := elT_spec ht
    generalize hv : ρ x = v at h1
    cases h1 with
    | nil _ => simp at hlt
    | @list b off m c _ _ val hn hp hcap hm hsz hcell hval =>
      have hnm : n < (m : Int) := by omega
      refine ⟨.pointer (some ⟨b, off + n.toNat * ti.size, none⟩), ?_, Rep.ref (fun j => val n.toNat j) (fun j hj => ?_) (fun j d hd => hval _ _ _ _ hc hd)⟩
      · simp [execOp, ho, hv, h2, Instr.indexAt, asIntOf, run_underlying hu, sizeOf, typeInfo, hinfo, h0, hnm, add_lit]
      · exact hcell n.toNat j (by omega) (by rw [hsz _ _ hc] at hj; exact hj)

/-- a load from what came in -/
theorem op_load_ref (t : TypeId) (x : Operand) (n : Nat) (cells : List D) (ht : ldT P t = some (n, true)) (hx : E x = .d (.ref cells)) (hn : n ≤ cells.length) :
    OpS P (.load t x) E st (.agg (cells.take n)) st :=
  op_pure fun o ho w0 σ0 σ gh ρ w hb hρ => by
    have h1 := hρ x (by simp [Op.operands])
    rw [hx] at h1
    obtain ⟨b, off, val, h2, h3, h4⟩ := ref_cells h1
    have hr := run_loadVar_agg (P := P) ht (w := w) (b := b) (o := off) ((List.range n).map val) (by simp) (fun j v hv => by
      simp only [List.getElem?_map, Option.map_eq_some_iff] at hv
      obtain ⟨j', hj', rfl⟩ := hv
      have hj2 := List.getElem?_eq_some_iff.1 hj'
      obtain ⟨hj3, hj4⟩ := hj2
      simp at hj3 hj4
      subst hj4
      exact (hb.sl.cell _ _ _ (h3 j (by omega))).1)
    refine ⟨_, by simp [execOp, ho, h2, Instr.loadAt, Instr.sureAddr, hr]; rfl, _, rfl, by simp; omega, fun i v d hv hd => ?_⟩
    simp only [List.getElem?_map, Option.map_eq_some_iff] at hv
    obtain ⟨j', hj', rfl⟩ := hv
    obtain ⟨hj3, hj4⟩ := List.getElem?_eq_some_iff.1 hj'
    simp at hj3 hj4
    subst hj4
    have hi : i < n := by have := (List.getElem?_eq_some_iff.1 hd).1; simp at this; omega
    rw [List.getElem?_take_of_lt hi] at hd
    exact h4 _ _ hd

theorem op_load_ref1 (t : TypeId) (x : Operand) (n : Nat) (d : D) (cells : List D) (ht : ldT P t = some (n, false)) (hx : E x = .d (.ref cells)) (hd : cells[0]? = some d) :
    OpS P (.load t x) E st (.d d) st :=
  op_pure fun o ho w0 σ0 σ gh ρ w hb hρ => by
    have h1 := hρ x (by simp [Op.operands])
    rw [hx] at h1
    obtain ⟨b, off, val, h2, h3, h4⟩ := ref_cells h1
    have hc : w.cell? ⟨b, off, none⟩ = some (val 0) := (hb.sl.cell _ _ _ (h3 0 (List.getElem?_eq_some_iff.1 hd).1)).1
    exact ⟨val 0, by simp [execOp, ho, h2, Instr.loadAt, Instr.sureAddr, run_loadVar_one ht hc], h4 0 d hd⟩

theorem ptr_cells {w0 : World} {σ0 σ gh w} (hb : Base w0 σ0 σ gh st w) {u : Value} {s off : Nat} {bT : TypeId} {cells : List AV} (h : RepA σ gh st u (.ptr s off)) (hst : st[s]? = some (.box bT cells)) :
    ∃ b vals, gh[s]? = some (.pointer (some ⟨b, 0, none⟩)) ∧ u = .pointer (some ⟨b, off, none⟩) ∧ w0.heap.size ≤ b ∧ w.heap[b]? = some (.cells vals bT (0, 0)) ∧ vals.size = cells.length ∧
      (∀ (i : Nat) v c, vals[i]? = some v → cells[i]? = some c → RepA σ gh st v c) ∧ Uns σ b ∧ ∀ v ∈ vals, v.oneCell' = true := by
  obtain ⟨b, h1, h2⟩ := h
  obtain ⟨b', vals, e, h3, h4, h5, h6, h7, h8⟩ := hb.obj s _ _ hst h1
  cases e
  exact ⟨b, vals, h1, h2, h3, h4, h5, h6, h7, h8⟩

/-- a load from a variable of one's own: one cell -/
theorem op_load_ptr1 (t : TypeId) (x : Operand) (n s off : Nat) (a : AV) {bT : TypeId} (cells : List AV) (ht : ldT P t = some (n, false)) (hx : E x = .ptr s off) (hst : st[s]? = some (.box bT cells)) (ha : cells[off]? = some a) :
    OpS P (.load t x) E st a st :=
  op_pure fun o ho w0 σ0 σ gh ρ w hb hρ => by
    have h1 := hρ x (by simp [Op.operands])
    rw [hx] at h1
    obtain ⟨b, vals, h2, h3, h4, h5, h6, h7, h8, h9⟩ := ptr_cells hb h1 hst
    have hlt : off < vals.size := by rw [h6]; exact (List.getElem?_eq_some_iff.1 ha).1
    have hc : w.cell? ⟨b, off, none⟩ = some vals[off] := by rw [cell_of_row w b off vals bT (0, 0) h5]; simp [hlt]
    exact ⟨vals[off], by simp [execOp, ho, h3, Instr.loadAt, Instr.sureAddr, run_loadVar_one ht hc], h7 off _ _ (by simp [hlt]) ha⟩

def toDs : List AV → Option (List D)
  | [] => some []
  | .v (.one d) :: r => match toDs r with | some ds => some (d :: ds) | none => none
  | _ => none

theorem toDs_get : ∀ {cs : List AV} {ds : List D}, toDs cs = some ds → cs.length = ds.length ∧ ∀ (i : Nat) d, ds[i]? = some d → cs[i]? = some (.d d)
  | [], ds, h => by cases h; exact ⟨rfl, fun i d h => by simp at h⟩
  | a :: r, ds, h => by
    unfold toDs at h
    split at h <;> try cases h
    · rename_i heq; cases heq
    · rename_i d' r' heq
      cases heq
      split at h <;> try cases h
      rename_i ds' hds
      have ih := toDs_get hds
      refine ⟨by simp [ih.1], fun i d hd => ?_⟩
      cases i with
      | zero => simp at hd; subst hd; rfl
      | succ i => simp at hd; simpa using ih.2 i d hd

/-- a load from a variable of one's own: a struct -/
theorem op_load_ptr (t : TypeId) (x : Operand) (n s off : Nat) (ds : List D) {bT : TypeId} (cells : List AV) (ht : ldT P t = some (n, true)) (hx : E x = .ptr s off) (hst : st[s]? = some (.box bT cells))
    (hds : toDs ((cells.drop off).take n) = some ds) (hn : ds.length = n) : OpS P (.load t x) E st (.agg ds) st :=
  op_pure fun o ho w0 σ0 σ gh ρ w hb hρ => by
    have h1 := hρ x (by simp [Op.operands])
    rw [hx] at h1
    obtain ⟨b, vals, h2, h3, h4, h5, h6, h7, h8, h9⟩ := ptr_cells hb h1 hst
    have hd := toDs_get hds
    have hle : off + n ≤ cells.length ∨ n = 0 := by
      have := hd.1
      rw [hn, List.length_take, List.length_drop] at this
      omega
    have hvl : ((vals.toList.drop off).take n).length = n := by simp; omega
    have hr := run_loadVar_agg (P := P) ht (w := w) (b := b) (o := off) ((vals.toList.drop off).take n) hvl (fun j v hv => by
      rw [List.getElem?_take] at hv
      split at hv
      · rw [cell_of_row w b _ vals bT (0, 0) h5]; simpa using hv
      · cases hv)
    refine ⟨.agg ((vals.toList.drop off).take n).toArray, by simp only [execOp, ho, h3, Instr.loadAt, Instr.sureAddr, Sem.run_bind, Sem.run_pure, Result.andThen_ok, hr], _, rfl, by rw [hvl, hn], fun i v d hv hdd => ?_⟩
    have h10 := hd.2 i d hdd
    have hi : i < n := by have := (List.getElem?_eq_some_iff.1 hdd).1; omega
    rw [List.getElem?_take_of_lt hi] at h10 hv
    exact h7 (off + i) v (.d d) (by simpa using hv) (by simpa using h10)

end
end Go.Proofs.Nw.K
