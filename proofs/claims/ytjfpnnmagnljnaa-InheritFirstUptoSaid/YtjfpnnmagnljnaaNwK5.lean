/- K5: stores, new variables. -/
import Derived.Test.YtjfpnnmagnljnaaNwK4
open Go Go.RowKit
set_option linter.unusedVariables false
set_option linter.unusedSimpArgs false
namespace Go.Proofs.Nw.K

theorem RepA.set {σ : Sig} {gh st} {v : Value} {a : AV} (h : RepA σ gh st v a) {s : Nat} {o : AO} (hs : st[s]? = some o) (o' : AO)
    (hc : ∀ k e sz xs, o' = .row k e sz xs → ∃ e2 xs2, o = .row k e2 sz xs2 ∧ xs2.length = xs.length) : RepA σ gh (st.set s o') v a := by
  have hlt : s < st.length := (List.getElem?_eq_some_iff.1 hs).1
  have look : ∀ (t : Nat) o1, st[t]? = some o1 → ∃ o2, (st.set s o')[t]? = some o2 ∧ ((t ≠ s ∧ o2 = o1) ∨ (t = s ∧ o1 = o ∧ o2 = o')) := by
    intro t o1 h1
    by_cases e : t = s
    · subst e; rw [hs] at h1; cases h1; exact ⟨o', by simp [hlt], .inr ⟨rfl, rfl, rfl⟩⟩
    · exact ⟨o1, by rw [List.getElem?_set, if_neg (fun e' => e e'.symm)]; exact h1, .inl ⟨e, rfl⟩⟩
  cases a with
  | h t k lo n =>
    obtain ⟨g, o1, h1, h2, h3⟩ := h
    obtain ⟨o2, h4, h5⟩ := look t o1 h2
    refine ⟨g, o2, h1, h4, fun k' e sz xs heq => ?_⟩
    rcases h5 with ⟨_, rfl⟩ | ⟨_, rfl, rfl⟩
    · exact h3 k' e sz xs heq
    · obtain ⟨e2, xs2, h6, h7⟩ := hc _ _ _ _ heq
      rw [← h7]; exact h3 k' e2 sz xs2 h6
  | ep t k i off =>
    obtain ⟨g, o1, h1, h2, h3⟩ := h
    obtain ⟨o2, h4, h5⟩ := look t o1 h2
    refine ⟨g, o2, h1, h4, fun k' e sz xs heq => ?_⟩
    rcases h5 with ⟨_, rfl⟩ | ⟨_, rfl, rfl⟩
    · exact h3 k' e sz xs heq
    · obtain ⟨e2, xs2, h6, h7⟩ := hc _ _ _ _ heq
      rw [← h7]; exact h3 k' e2 sz xs2 h6
  | _ => exact h

universe u
theorem set_self {α : Type u} {l : List α} {s : Nat} {a : α} (h : l[s]? = some a) : l.set s a = l := by
  apply List.ext_getElem?
  intro t
  rw [List.getElem?_set]
  split
  · rename_i e; subst e
    obtain ⟨hlt, e⟩ := List.getElem?_eq_some_iff.1 h
    simp [hlt, e]
  · rfl

theorem grown_setRow (w : World) (b : Nat) (cs : Array Value) : w.grownBy (w.setRow b cs) (some b) :=
  ⟨rfl, rfl, rfl, by simp, fun k _ hk => setRow_other w b k _ (fun e => hk (by simp [e]))⟩

theorem one_cells {v : Value} (h : v.oneCell' = true) : v.cells = #[v] := by cases v <;> simp_all [Value.oneCell', Value.cells]

/-- a piece of a variable of one's own is written -/
theorem box_store {P : Program} {w0 : World} {σ0 σ gh st w} (hb : Base w0 σ0 σ gh st w) {u : Value} {s off : Nat} {bT : TypeId} {cells : List AV} (h : RepA σ gh st u (.ptr s off)) (hst : st[s]? = some (.box bT cells))
    (vs : List Value) (as : List AV) (hl : vs.length = as.length) (ha : ∀ (i : Nat) v a, vs[i]? = some v → as[i]? = some a → RepA σ gh st v a) (h1 : ∀ v ∈ vs, v.oneCell' = true) (hle : off + as.length ≤ cells.length) :
    ∃ b w', u = .pointer (some ⟨b, off, none⟩) ∧ (storeCells ⟨b, off, none⟩ vs).run P w = .ok () w' ∧
      Fut w0 σ0 σ gh st σ gh (st.set s (.box bT (cells.take off ++ as ++ cells.drop (off + as.length)))) w' := by
  obtain ⟨b, vals, h2, h3, h4, h5, h6, h7, h8, h9⟩ := ptr_cells hb h hst
  have hr := run_storeCells_at P b off bT vs 0 vals w h5 (by omega) h1
  simp only [Nat.add_zero] at hr
  refine ⟨b, _, h3, hr, ?_⟩
  have hset := set_self h2
  generalize ho' : AO.box bT (cells.take off ++ as ++ cells.drop (off + as.length)) = o'
  have keep : ∀ v a, RepA σ gh st v a → RepA σ (gh.set s (.pointer (some ⟨b, 0, none⟩))) (st.set s o') v a := fun v a hv => by
    rw [hset]
    refine hv.set hst _ (fun k e sz xs heq => ?_)
    rw [← ho'] at heq; cases heq
  have := hb.turn (w' := w.setRow b (vals.toList.take off ++ vs ++ vals.toList.drop (off + vs.length)).toArray) hst h2 (by simp) (by simpa [blkOf] using grown_setRow w b _) (.pointer (some ⟨b, 0, none⟩)) o' (fun b' hb' => .inl (by simpa [blkOf] using hb')) ?_ keep
  · rwa [hset] at this
  · subst ho'
    refine ⟨b, _, rfl, h4, setRow_heap w b vals _ bT _ h5, ?_, ?_, h8, ?_⟩
    · simp; omega
    · intro i v c hv hc
      refine keep _ _ ?_
      simp only [List.getElem?_toArray] at hv
      rw [List.append_assoc, List.getElem?_append] at hv hc
      have l1 : (List.take off vals.toList).length = off := by simp; omega
      have l2 : (List.take off cells).length = off := by simp; omega
      rw [l1] at hv
      rw [l2] at hc
      split at hv
      · rename_i hi
        rw [if_pos hi] at hc
        rw [List.getElem?_take_of_lt hi] at hv hc
        exact h7 i v c (by simpa using hv) hc
      · rename_i hi
        rw [if_neg hi] at hc
        rw [List.getElem?_append] at hv hc
        rw [hl] at hv
        split at hv
        · rename_i hi2
          rw [if_pos hi2] at hc
          exact ha _ v c hv hc
        · rename_i hi2
          rw [if_neg hi2] at hc
          simp only [List.getElem?_drop] at hv hc
          exact h7 _ v c (by simpa using hv) hc
    · intro v hv
      simp only [List.mem_toArray, List.mem_append] at hv
      rcases hv with (hv | hv) | hv
      · exact h9 v (by simpa using List.mem_of_mem_take hv)
      · exact h1 v hv
      · exact h9 v (by simpa using List.mem_of_mem_drop hv)

/-- values of one cell -/
def AV.single : AV → Bool
  | .v (.one _) | .ptr _ _ | .h _ _ _ _ | .ep _ _ _ _ | .omap _ | .clo _ _ => true
  | _ => false

theorem Rep.shape {σ : Sig} {v : Value} {d : D} (h : Rep σ v d) {sz : Nat} {xs : List (List D)} (hd : d = .list sz xs) : ∃ A n c, v = .slice A n c := by
  cases h with
  | nil _ => exact ⟨_, _, _, rfl⟩
  | list => exact ⟨_, _, _, rfl⟩
  | _ => cases hd

theorem Rep.one {σ : Sig} {v : Value} {d : D} (h : Rep σ v d) : v.oneCell' = true := by
  cases h with
  | sc h => cases v <;> simp_all [scal, Value.oneCell']
  | tl h => obtain ⟨_, _, _, rfl⟩ := h.shape rfl; rfl
  | full h _ => obtain ⟨_, _, _, rfl⟩ := h.shape rfl; rfl
  | _ => rfl

theorem single_one {w0 : World} {σ0 σ gh st w} (hb : Base w0 σ0 σ gh st w) {v : Value} {a : AV} (h : RepA σ gh st v a) (hs : a.single = true) (hok : ∀ s k lo n, a = .h s k lo n → ∃ e sz xs, st[s]? = some (.row k e sz xs)) (hok2 : ∀ s k i off, a ≠ .ep s k i off) : v.oneCell' = true := by
  cases a with
  | v x => cases x with
    | one d => exact Rep.one (h : Rep σ v d)
    | agg _ => simp [AV.single] at hs
  | ptr s off => obtain ⟨b, _, rfl⟩ := h; rfl
  | h s k lo n =>
    obtain ⟨e, sz, xs, h1⟩ := hok s k lo n rfl
    obtain ⟨g, o, h2, h3, h4⟩ := h
    rw [h1] at h3
    cases h3
    obtain ⟨_, h5⟩ := h4 _ _ _ _ rfl
    obtain ⟨_, h6⟩ := h5 rfl
    obtain ⟨vals, h7, _⟩ := hb.obj s _ _ h1 h2
    rcases h6 with ⟨_, _, rfl⟩ | ⟨b, m, c, _, _, ⟨_, _, a, rfl⟩ | rfl⟩
    · rcases h7.2 with ⟨rfl, _⟩ | ⟨_, _, _, rfl, _⟩ <;> rfl
    · rfl
    · rfl
  | ep s k i off => exact absurd rfl (hok2 s k i off)
  | omap s => obtain ⟨_, r, rfl⟩ := h; rfl
  | clo f caps => obtain ⟨us, rfl, _⟩ := h; rfl
  | tup _ => simp [AV.single] at hs
  | junk => simp [AV.single] at hs

section
variable {P : Program} {E : Operand → AV} {st : List AO}

def okSingle (st : List AO) : AV → Prop
  | .h s k _ _ => ∃ e sz xs, st[s]? = some (.row k e sz xs)
  | .ep _ _ _ _ => False
  | a => a.single = true

theorem okSingle_one {w0 : World} {σ0 σ gh w} (hb : Base w0 σ0 σ gh st w) {v : Value} {a : AV} (h : RepA σ gh st v a) (hs : okSingle st a) : v.oneCell' = true :=
  single_one hb h (by cases a <;> first | rfl | exact hs) (fun s k lo n e => by subst e; exact hs) (fun s k i off e => by subst e; exact hs)

/-- a store of one cell into a variable of one's own -/
theorem op_store_ptr1 (t : TypeId) (x y : Operand) (s off : Nat) (a : AV) {bT : TypeId} (cells : List AV) (ht : ldT P t = some (1, false)) (hx : E x = .ptr s off) (hy : E y = a) (hst : st[s]? = some (.box bT cells))
    (ha : okSingle st a) (hoff : off < cells.length) :
    OpS P (.store t x y) E st .junk (st.set s (.box bT (cells.take off ++ [a] ++ cells.drop (off + 1)))) := by
  intro o ho w0 σ0 σ gh ρ w hb hρ
  have h1 := hρ x (by simp [Op.operands])
  have h2 := hρ y (by simp [Op.operands])
  rw [hx] at h1
  rw [hy] at h2
  have hone := okSingle_one hb h2 ha
  obtain ⟨b, w', e1, e2, hf⟩ := box_store (P := P) hb h1 hst [ρ y] [a] rfl (fun i v a' hv ha' => by
    cases i with
    | zero => simp at hv ha'; subst hv ha'; exact h2
    | succ i => simp at hv) (by simpa using hone) (by simp; omega)
  have hsz := (ldT_one ht w).2
  have : (execOp ρ o).run P w = .ok .skip w' := by
    simp [execOp, ho, e1, Instr.storeAt, Instr.sureAddr, storeVar, one_cells hone, hsz, e2]
  rw [this]
  exact ⟨rfl, σ, gh, hf⟩

/-- a store of a struct -/
theorem op_store_ptr (t : TypeId) (x y : Operand) (n s off : Nat) (ds : List D) {bT : TypeId} (cells : List AV) (ht : ldT P t = some (n, true)) (hx : E x = .ptr s off) (hy : E y = .agg ds) (hst : st[s]? = some (.box bT cells))
    (hn : ds.length = n) (hoff : off + n ≤ cells.length) :
    OpS P (.store t x y) E st .junk (st.set s (.box bT (cells.take off ++ ds.map AV.d ++ cells.drop (off + n)))) := by
  intro o ho w0 σ0 σ gh ρ w hb hρ
  have h1 := hρ x (by simp [Op.operands])
  have h2 := hρ y (by simp [Op.operands])
  rw [hx] at h1
  rw [hy] at h2
  obtain ⟨vs, e0, hl, hr⟩ := h2
  obtain ⟨b, w', e1, e2, hf⟩ := box_store (P := P) hb h1 hst vs (ds.map AV.d) (by simpa using hl) (fun i v a hv ha => by
    simp only [List.getElem?_map, Option.map_eq_some_iff] at ha
    obtain ⟨d, hd, rfl⟩ := ha
    exact hr i v d hv hd) (fun v hv => by
      obtain ⟨i, hi, rfl⟩ := List.getElem_of_mem hv
      have hi' : i < ds.length := by omega
      exact (hr i _ ds[i] (by simp [hi]) (by simp [hi'])).one) (by simp; omega)
  have hsz := (ldT_agg ht w).2
  have : (execOp ρ o).run P w = .ok .skip w' := by
    have hl' : vs.length = n := by omega
    simp [execOp, ho, e1, e0, Instr.storeAt, Instr.sureAddr, storeVar, Value.cells, hsz, e2, hl']
  rw [this]
  simp only [List.length_map, hn] at hf
  exact ⟨rfl, σ, gh, hf⟩

/-- a new variable -/
theorem new_box {w0 : World} {σ0 σ gh w} (hb : Base w0 σ0 σ gh st w) (vals : Array Value) (T : TypeId) (cells : List AV) (hl : vals.size = cells.length)
    (hr : ∀ (i : Nat) v c, vals[i]? = some v → cells[i]? = some c → RepA σ gh st v c) (h1 : ∀ v ∈ vals, v.oneCell' = true) :
    Fut w0 σ0 σ gh st σ (gh ++ [.pointer (some ⟨w.heap.size, 0, none⟩)]) (st ++ [.box T cells]) (w.alloc (.cells vals T)) :=
  hb.push (World.grownBy_alloc w _ none) _ _ (fun b hb' => by simp [blkOf] at hb'; subst hb'; simp)
    ⟨w.heap.size, vals, rfl, hb.below.size, heap_alloc_new w _, hl, hr, hb.sl.fresh (Nat.le_refl _), h1⟩

theorem ptr_last {σ : Sig} {gh : List Value} {w : World} {w0 σ0} (hb : Base w0 σ0 σ gh st w) (st' : List AO) : RepA σ (gh ++ [.pointer (some ⟨w.heap.size, 0, none⟩)]) st' (.pointer (some ⟨w.heap.size, 0, none⟩)) (.ptr st.length 0) :=
  ⟨w.heap.size, by rw [← hb.len]; simp, rfl⟩

def zeroOf (P : Program) (t : TypeId) : Option (List AV) :=
  match P.info? t with
  | some i => match i.zero with
    | some z => if z.cells.toList.all cOk && z.cells.toList.all (·.oneCell') then some (z.cells.toList.map cAV) else none
    | none => none
  | none => none

theorem op_alloc (t : TypeId) (cells : List AV) (hz : zeroOf P t = some cells) : OpS P (.alloc t) E st (.ptr st.length 0) (st ++ [.box t cells]) := by
  intro o ho w0 σ0 σ gh ρ w hb hρ
  unfold zeroOf at hz
  split at hz <;> try cases hz
  rename_i i hi
  split at hz <;> try cases hz
  rename_i z hz0
  split at hz <;> try cases hz
  rename_i hall
  simp only [Bool.and_eq_true, List.all_eq_true] at hall
  have : (execOp ρ o).run P w = .ok (.value (.pointer (some ⟨w.heap.size, 0, none⟩))) (w.alloc (.cells z.cells t)) := by
    simp [execOp, ho, Instr.alloc, zeroValue, typeInfo, hi, hz0, newVar, newRow]
  rw [this]
  refine ⟨σ, _, new_box hb z.cells t _ (by simp) (fun j v c hv hc => ?_) (fun v hv => hall.2 v (by simpa using hv)), ptr_last hb _⟩
  simp only [List.getElem?_map, Option.map_eq_some_iff] at hc
  obtain ⟨v', hv', rfl⟩ := hc
  have e : v' = v := by simp at hv'; rw [hv] at hv'; cases hv'; rfl
  subst e
  exact repV_cAV (hall.1 v' (List.mem_of_getElem? hv'))

theorem op_box_agg (t : TypeId) (x : Operand) (ds : List D) (hx : E x = .agg ds) : OpS P (.box t x) E st (.ptr st.length 0) (st ++ [.box t (ds.map AV.d)]) := by
  intro o ho w0 σ0 σ gh ρ w hb hρ
  have h1 := hρ x (by simp [Op.operands])
  rw [hx] at h1
  obtain ⟨vs, e0, hl, hr⟩ := h1
  have : (execOp ρ o).run P w = .ok (.value (.pointer (some ⟨w.heap.size, 0, none⟩))) (w.alloc (.cells vs.toArray t)) := by
    simp [execOp, ho, e0, Instr.box, newVar, newRow, Value.cells]
  rw [this]
  refine ⟨σ, _, new_box hb vs.toArray t _ (by simpa using hl) (fun j v c hv hc => ?_) (fun v hv => ?_), ptr_last hb _⟩
  · simp only [List.getElem?_map, Option.map_eq_some_iff] at hc
    obtain ⟨d, hd, rfl⟩ := hc
    exact hr j v d (by simpa using hv) hd
  · obtain ⟨i, hi, rfl⟩ := List.getElem_of_mem (by simpa using hv : v ∈ vs)
    have hi' : i < ds.length := by omega
    exact (hr i _ ds[i] (by simp [hi]) (by simp [hi'])).one

theorem op_box1 (t : TypeId) (x : Operand) (a : AV) (hx : E x = a) (ha : okSingle st a) : OpS P (.box t x) E st (.ptr st.length 0) (st ++ [.box t [a]]) := by
  intro o ho w0 σ0 σ gh ρ w hb hρ
  have h1 := hρ x (by simp [Op.operands])
  rw [hx] at h1
  have hone := okSingle_one hb h1 ha
  have : (execOp ρ o).run P w = .ok (.value (.pointer (some ⟨w.heap.size, 0, none⟩))) (w.alloc (.cells #[ρ x] t)) := by
    simp [execOp, ho, Instr.box, newVar, newRow, one_cells hone]
  rw [this]
  refine ⟨σ, _, new_box hb #[ρ x] t _ (by simp) (fun j v c hv hc => ?_) (fun v hv => by simp at hv; subst hv; exact hone), ptr_last hb _⟩
  cases j with
  | zero => simp at hv hc; subst hv hc; exact h1
  | succ j => simp at hv

end
end Go.Proofs.Nw.K
