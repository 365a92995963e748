/- K20: strings appended to bytes; pointers checked, compared, seen as others. -/
import Derived.Test.YtjfpnnmagnljnaaNwK14
import Derived.Lib.AppendStr
import Derived.Lib.Builder
import Derived.Laws.Pointers
import Derived.Laws.Externs
open Go Go.RowKit
set_option linter.unusedVariables false
set_option linter.unusedSimpArgs false
namespace Go.Proofs.Nw.K

/-- a string's bytes, as rows -/
def strRows (s : ByteArray) : List (List D) := s.data.toList.map fun b => [.sc (.int .u8 b.toNat)]
theorem strRows_length (s : ByteArray) : (strRows s).length = s.size := by
  simp only [strRows, List.length_map, Array.length_toList]; rfl

theorem strCells_rows {σ : Sig} (s : ByteArray) : RepRows σ (Lib.strCells s) 1 (strRows s) := by
  refine ⟨fun i x hx => ?_, fun i j x d hx hd => ?_⟩
  · simp only [strRows, List.getElem?_map, Option.map_eq_some_iff] at hx
    obtain ⟨b, _, rfl⟩ := hx; rfl
  · simp only [strRows, List.getElem?_map, Option.map_eq_some_iff] at hx
    obtain ⟨b, hb, rfl⟩ := hx
    cases j with
    | zero =>
      simp at hd; subst hd
      exact ⟨.int .u8 b.toNat, by simp only [Lib.strCells, List.getElem?_map, Nat.mul_one, Nat.add_zero, hb, Option.map_some], .sc rfl⟩
    | succ j => simp at hd

/-- the type of bytes -/
def byteT (P : Program) (t : TypeId) : Option TypeId :=
  match P.underlying t with
  | some (.slice e) => match P.info? e with
    | some i => match i.zero with
      | some (.int .u8 0) => if i.size = 1 ∧ i.bytes = 1 then some e else none
      | _ => none
    | none => none
  | _ => none

theorem byteT_spec {P : Program} {t e : TypeId} (h : byteT P t = some e) : P.underlying t = some (.slice e) ∧ ∃ i, P.info? e = some i ∧ i.zero = some (.int .u8 0) ∧ i.size = 1 ∧ i.bytes = 1 := by
  unfold byteT at h
  split at h
  · rename_i e' hu
    split at h
    · rename_i i hi
      split at h
      · rename_i hz
        split at h
        · rename_i hc; cases h; exact ⟨hu, i, hi, hz, hc.1, hc.2⟩
        · cases h
      · cases h
    · cases h
  · cases h

theorem appendsAt_string {P : Program} {w : World} {σ : Sig} {t u ty e : TypeId} (ht : byteT P t = some e) (hu : P.underlying u = some .string) (s : ByteArray) (n : Nat)
    (hbytes : n + s.size ≤ 140737488351232) : AppendsAt P w t u ty e 1 σ (.string s) (strRows s) n := by
  intro base v vals hown hbase
  obtain ⟨hu', i, hi, hz, hsz, hby⟩ := byteT_spec ht
  have hm : n + s.size ≤ maxLen := by simp only [maxLen]; omega
  obtain ⟨v', w', hr, ho, hg, hnil⟩ := Lib.run_append_own_string (P := P) w base t u ty e i hu' hu hi hz hsz hby v n vals hown s hm (by omega) hbase
  refine ⟨v', w', Lib.strCells s, hr, by rw [strRows_length]; exact ho, hg, ?_, strCells_rows s, Lib.strCells_oneCell s⟩
  have det : ∀ {v'' w''}, (Builtin.append_ #[t, u] ty #[v, .string s]).run P w = .ok v'' w'' → v' = v'' := fun h => by rw [hr] at h; cases h; rfl
  rcases hown.2 with ⟨rfl, h0⟩ | ⟨g, cap, cur, rfl, hbg, hgw, hnc, hcm, hcs, htake⟩
  · by_cases hs : s.size = 0
    · left; rw [(hnil.2 ⟨rfl, hs⟩)]
    · right
      have := det (run_append_nil_string (P := P) w t u ty e i (.int .u8 0) hu' hu hi hz s (by omega) (by omega) (by rw [hby]; omega))
      rw [this]; rfl
  · by_cases hroom : n + s.size ≤ cap
    · left
      have := det (Lib.run_append_room_string (P := P) w t u ty e i hu' hu hi hsz g n cap cur hgw s hroom (by omega))
      rw [this]; rfl
    · right
      have hxl : vals.length = n := by simpa using hown.1
      have := det (Lib.run_append_grow_string (P := P) w t u ty e i (.int .u8 0) hu' hu hi hz ⟨g, 0, none⟩ n cap vals (by rw [hsz]; simpa using hxl) (hown.cells (g := g) rfl) s (by omega) (by omega) (by rw [hby]; exact growslice_fits (by omega) (by omega)))
      rw [this]; rfl

section
variable {P : Program} {E : Operand → AV} {st : List AO}

theorem op_appendS_nils (t u e : TypeId) (x y : Operand) (s : ByteArray) (ht : byteT P t = some e) (hu : P.underlying u = some .string) (hx : E x = .nils) (hy : E y = .str s) (hbytes : s.size ≤ 140737488351232) :
    OpS P (.call { callee := .builtin .append, args := #[x, y], argTypes := #[t, u] }) E st (.h st.length 0 0 (strRows s).length) (st ++ [.row 0 e 1 (strRows s)]) :=
  op_append_nils_ t u e 1 x y (strRows s) hx fun w0 σ0 σ gh w val ty hb h2 => by
    rw [hy] at h2
    have := RepA_sc h2
    subst this
    exact appendsAt_string ht hu s 0 (by omega)

theorem op_appendS_h (t u e : TypeId) (x y : Operand) (s : ByteArray) (r k n : Nat) (xs : List (List D)) (ht : byteT P t = some e) (hu : P.underlying u = some .string) (hx : E x = .h r k 0 n) (hst : st[r]? = some (.row k e 1 xs)) (hy : E y = .str s)
    (hbytes : n + s.size ≤ 140737488351232) :
    OpS P (.call { callee := .builtin .append, args := #[x, y], argTypes := #[t, u] }) E st (.h r (k + 1) 0 (n + (strRows s).length)) (st.set r (.row (k + 1) e 1 (xs.take n ++ strRows s))) :=
  op_append_h_ t u e 1 x y r k n xs (strRows s) hx hst fun w0 σ0 σ gh w val ty hb h2 => by
    rw [hy] at h2
    have := RepA_sc h2
    subst this
    exact appendsAt_string ht hu s n (by omega)

theorem op_nilCheck_ptr (x : Operand) (s off : Nat) (hx : E x = .ptr s off) : OpS P (.nilCheck x) E st (.ptr s off) st :=
  op_pure fun o ho w0 σ0 σ gh ρ w hb hρ => by
    have h1 := hρ x (by simp [Op.operands])
    rw [hx] at h1
    obtain ⟨b, h2, h3⟩ := h1
    exact ⟨ρ x, by simp [execOp, ho, h3], b, h2, h3⟩

theorem op_nilCheck_ref (x : Operand) (cells : List D) (hx : E x = .d (.ref cells)) : OpS P (.nilCheck x) E st (.d (.ref cells)) st :=
  op_pure fun o ho w0 σ0 σ gh ρ w hb hρ => by
    have h1 := hρ x (by simp [Op.operands])
    rw [hx] at h1
    refine ⟨ρ x, ?_, h1⟩
    have h1' : Rep σ (ρ x) (.ref cells) := h1
    simp only [execOp, ho]
    generalize ρ x = v at h1' ⊢
    cases h1' with
    | ref val hcell hval => rfl

/-- onto a list that has no room: a row of one's own begins -/
theorem op_append_full (t e : TypeId) (sz by_ : Nat) (x y : Operand) (xs ys : List (List D)) (ht : appT P t = some (e, sz, by_)) (hx : E x = .d (.full sz xs)) (hy : Src st (E y) sz ys) (hne : ys ≠ []) (hxe : xs ≠ [])
    (hbound : (xs.length + ys.length) * by_ ≤ 140737488355328) (hmax : xs.length + ys.length ≤ maxLen) :
    OpS P (.call { callee := .builtin .append, args := #[x, y], argTypes := #[t, t] }) E st (.h st.length 0 0 (xs.length + ys.length)) (st ++ [.row 0 e sz (xs ++ ys)]) := by
  intro o ho w0 σ0 σ gh ρ w hb hρ
  have h1 := hρ x (by simp [Op.operands, Call.operands])
  have h2 := hρ y (by simp [Op.operands, Call.operands])
  rw [hx] at h1
  obtain ⟨hu, i, z, hi, hz, hsz, hby, hzs, hpos⟩ := appT_spec ht
  have h1f : Rep σ (ρ x) (.full sz xs) := h1
  have h1l : RepA σ gh st (ρ x) (.list sz xs) := full_list h1f
  obtain ⟨A, c, hv, hc⟩ := src_cells hb h1l .list
  have hcap : c = xs.length := by
    generalize ρ x = u at h1f hv
    cases h1f with
    | full _ hc' => exact hc' _ _ _ hv
  obtain ⟨A2, c2, hv2, hc2⟩ := src_cells hb h2 hy
  rcases hc with hc | ⟨ad, olds, hA, hl, holds, hone, hrows⟩
  · exact absurd hc hxe
  rcases hc2 with hc2 | ⟨ad2, news, hA2, hl2, hnews, hone2, hrows2⟩
  · exact absurd hc2 hne
  subst hA hA2 hcap
  have hy0 : 0 < ys.length := by cases ys with | nil => exact absurd rfl hne | cons _ _ => simp
  have h63 : xs.length + ys.length ≤ 9223372036854775807 := by simp only [maxLen] at hmax; omega
  have hr := run_append_grow (P := P) w t o.type e i z hu hi hz ad xs.length xs.length olds (by rw [hsz]; exact hl) holds ad2 ys.length c2 news (by rw [hsz]; exact hl2) hnews (by omega) (by omega)
    (by rw [hby]; exact growslice_fits (by omega) hbound)
  have hrun : (execOp ρ o).run P w = .ok (.value (.slice (some ⟨w.heap.size, 0, none⟩) (xs.length + ys.length) (grownCap w (xs.length + ys.length) xs.length e)))
        (w.drew.alloc (.cells (olds.toArray ++ news.toArray ++ Builtin.zeroCells z.cells (grownCap w (xs.length + ys.length) xs.length e - (xs.length + ys.length))) e)) := by
    simp [execOp, ho, resolve, invoke, builtin, hv, hv2, hr]
  rw [hrun]
  have hge := grownCap_ge w (xs.length + ys.length) xs.length e
  have hcm := grownCap_le_maxLen w (xs.length + ys.length) xs.length e hmax
  generalize hG : grownCap w (xs.length + ys.length) xs.length e = G at hge hcm ⊢
  have hlen : (olds ++ news).length = (xs.length + ys.length) * sz := by rw [List.length_append, hl, hl2, Nat.add_mul]
  have hown : (w.drew.alloc (.cells (olds.toArray ++ news.toArray ++ Builtin.zeroCells z.cells (G - (xs.length + ys.length))) e)).ownsRow w0.heap.size e sz (.slice (some ⟨w.heap.size, 0, none⟩) (xs.length + ys.length) G) (xs.length + ys.length) (olds ++ news) := by
    refine ⟨hlen, .inr ⟨w.heap.size, G, _, rfl, hb.below.size, Go.heap_alloc_new w.drew _, hge, hcm, ?_, ?_⟩⟩
    · simp only [Array.size_append, List.size_toArray, size_zeroCells, hzs, hl, hl2]
      rw [← Nat.add_mul, ← Nat.add_mul]
      congr 1; omega
    · simp only [Array.toList_append, List.append_assoc]
      rw [← List.append_assoc, ← hlen]
      exact List.take_left
  have hg : w.grownBy (w.drew.alloc (.cells (olds.toArray ++ news.toArray ++ Builtin.zeroCells z.cells (G - (xs.length + ys.length))) e)) none :=
    ⟨rfl, rfl, rfl, by simp, fun k hk _ => Below.heap_alloc w.drew _ k hk⟩
  have hf := hb.push hg (.slice (some ⟨w.heap.size, 0, none⟩) (xs.length + ys.length) G) (.row 0 e sz (xs ++ ys)) (fun b hb' => by simp [blkOf] at hb'; subst hb'; exact ⟨Nat.le_refl _, by simp⟩)
    ⟨olds ++ news, by rw [List.length_append]; exact hown, (hrows.append hl hrows2).1, (hrows.append hl hrows2).2, fun b hb' => by simp [blkOf] at hb'; subst hb'; exact hb.sl.fresh (Nat.le_refl _), fun v hv => by
      rcases List.mem_append.1 hv with h | h
      · exact hone v h
      · exact hone2 v h⟩
  refine ⟨σ, _, hf, _, _, by rw [← hb.len]; simp; rfl, by simp; rfl, fun k' e' sz' xs' heq => ?_⟩
  cases heq
  exact ⟨Nat.le_refl _, fun _ => ⟨by simp, .inl ⟨rfl, by simp, rfl⟩⟩⟩

/-- a pointer type, of which two can be held against each other -/
def ptrT (P : Program) (t : TypeId) : Bool :=
  match P.underlying t with
  | some (.pointer e) => (P.info? e).isSome
  | _ => false

theorem ptrT_spec {t : TypeId} (h : ptrT P t = true) : ∃ e j, P.underlying t = some (.pointer e) ∧ P.info? e = some j := by
  unfold ptrT at h
  split at h
  · rename_i e he
    obtain ⟨j, hj⟩ := Option.isSome_iff_exists.1 h
    exact ⟨e, j, he, hj⟩
  · cases h

theorem eqGuard_ptr (op : BinOp) (t : TypeId) (x y : Operand) (a b : Option Addr) : eqGuard op t x y (.pointer a) (.pointer b) = pure () := by
  cases op <;> rfl

theorem op_peql_nil (t ty : TypeId) (x y : Operand) (s off : Nat) (ht : ptrT P t = true) (hx : E x = .ptr s off) (hy : E y = .sc (.pointer none)) : OpS P (.binOp .eql t x y ty) E st (.bool false) st :=
  op_pure fun o ho w0 σ0 σ gh ρ w hb hρ => by
    have h1 := hρ x (by simp [Op.operands])
    have h2 := hρ y (by simp [Op.operands])
    rw [hx] at h1
    rw [hy] at h2
    obtain ⟨b, _, h3⟩ := h1
    obtain ⟨e, j, h4, h5⟩ := ptrT_spec ht
    have hpt : P.pointee t = e := by simp [Program.pointee, h4]
    have := run_eql_pointer_nil (P := P) w t (some ⟨b, off, none⟩) (by rw [hpt]; exact h4)
    exact ⟨.bool false, by simp [execOp, ho, h3, RepA_sc h2, eqGuard_ptr, this], RepA_of_sc rfl⟩

theorem op_peql_nils (t ty : TypeId) (x y : Operand) (ht : ptrT P t = true) (hx : E x = .sc (.pointer none)) (hy : E y = .sc (.pointer none)) : OpS P (.binOp .eql t x y ty) E st (.bool true) st :=
  op_pure fun o ho w0 σ0 σ gh ρ w hb hρ => by
    have h1 := hρ x (by simp [Op.operands])
    have h2 := hρ y (by simp [Op.operands])
    rw [hx] at h1
    rw [hy] at h2
    obtain ⟨e, j, h4, h5⟩ := ptrT_spec ht
    have hpt : P.pointee t = e := by simp [Program.pointee, h4]
    have := run_eql_pointer_nil (P := P) w t none (by rw [hpt]; exact h4)
    exact ⟨.bool true, by simp [execOp, ho, RepA_sc h1, RepA_sc h2, eqGuard_ptr, this], RepA_of_sc rfl⟩

theorem op_pneq_same (t ty : TypeId) (x y : Operand) (s off : Nat) (ht : ptrT P t = true) (hx : E x = .ptr s off) (hy : E y = .ptr s off) : OpS P (.binOp .neq t x y ty) E st (.bool false) st :=
  op_pure fun o ho w0 σ0 σ gh ρ w hb hρ => by
    have h1 := hρ x (by simp [Op.operands])
    have h2 := hρ y (by simp [Op.operands])
    rw [hx] at h1
    rw [hy] at h2
    obtain ⟨b, h3, h4⟩ := h1
    obtain ⟨b', h3', h4'⟩ := h2
    rw [h3] at h3'
    cases h3'
    obtain ⟨e, j, h5, h6⟩ := ptrT_spec ht
    have := Lib.run_neq_ptr_same (P := P) w ⟨b, off, none⟩ h5 h6
    exact ⟨.bool false, by simp [execOp, ho, h4, h4', eqGuard_ptr, this], RepA_of_sc rfl⟩

/-- a pointer to the begin of a variable of type bT (n cells), seen as another type's: the same -/
def CvOk (P : Program) (s d bT n : Nat) : Prop := ∀ (w : World) b, w.shape? b = some (bT, n) → (convert s d (.pointer (some ⟨b, 0, none⟩))).run P w = .ok (.pointer (some ⟨b, 0, none⟩)) w

theorem op_convert_ptr (s d : TypeId) (x : Operand) (i bT : Nat) (cells : List AV) (hx : E x = .ptr i 0) (hst : st[i]? = some (.box bT cells)) (hc : CvOk P s d bT cells.length) : OpS P (.convert s d x) E st (.ptr i 0) st :=
  op_pure fun o ho w0 σ0 σ gh ρ w hb hρ => by
    have h1 := hρ x (by simp [Op.operands])
    rw [hx] at h1
    obtain ⟨b, vals, h2, h3, h4, h5, h6, _⟩ := ptr_cells hb h1 hst
    have := hc w b (by simp [World.shape?, h5, h6])
    exact ⟨.pointer (some ⟨b, 0, none⟩), by simp [execOp, ho, h3, this], b, h2, rfl⟩

/-- a function without a body that hands back what it is handed -/
def IdFn (P : Program) (f : FuncId) : Prop := ∀ (v : Value) (w : World), (callFunc f #[v]).run P w = .ok (.value v) w

theorem op_call_id (x y : Operand) (f : FuncId) (ts : Array TypeId) (hx : E x = .sc (.func (.func f) #[] #[])) (hi : IdFn P f) :
    OpS P (.call { callee := .value x, args := #[y], argTypes := ts }) E st (E y) st :=
  op_pure fun o ho w0 σ0 σ gh ρ w hb hρ => by
    have hf := hρ x (by simp [Op.operands, Call.operands])
    rw [hx] at hf
    have hf := RepA_sc hf
    have := hi (ρ y) w
    refine ⟨ρ y, ?_, hρ y (by simp [Op.operands, Call.operands])⟩
    simp only [execOp, ho, resolve, hf, Deferred.ofValue, Sem.run_bind, Sem.run_pure, Result.andThen_ok, invoke]
    simpa using this

/-- a list without an element -/
theorem op_buildSlice0 (t e : TypeId) (sz : Nat) (ht : elT P t = some (e, sz)) : OpS P (.buildSlice t 0 #[]) E st (.h st.length 0 0 0) (st ++ [.row 0 e sz []]) := by
  intro o ho w0 σ0 σ gh ρ w hb hρ
  obtain ⟨hu, i, hi, hsz⟩ := elT_spec ht
  have hrun : (execOp ρ o).run P w = .ok (.value (.slice (some ⟨w.heap.size, 0, none⟩) 0 0)) (w.alloc (.cells #[] e)) := by
    simp [execOp, ho, Instr.buildSlice, run_underlying hu, sizeOf, typeInfo, hi, newRow, Instr.fill]
    congr 2
    exact Array.eq_empty_of_size_eq_zero (by simp)
  rw [hrun]
  have hf := hb.push (World.grownBy_alloc w _ none) (.slice (some ⟨w.heap.size, 0, none⟩) 0 0) (.row 0 e sz []) (fun b hb' => by simp [blkOf] at hb'; subst hb'; exact ⟨Nat.le_refl _, by simp⟩)
    ⟨[], World.ownsRow_made w #[] 0 hb.below.size (Nat.zero_le _) (by simp), fun i x h => by simp at h, fun i j x d h => by simp at h, fun b hb' => by simp [blkOf] at hb'; subst hb'; exact hb.sl.fresh (Nat.le_refl _), by simp⟩
  refine ⟨σ, _, hf, _, _, by rw [← hb.len]; simp; rfl, by simp; rfl, fun k' e' sz' xs' heq => ?_⟩
  cases heq
  exact ⟨Nat.le_refl _, fun _ => ⟨by simp, .inl ⟨rfl, rfl, rfl⟩⟩⟩

end
end Go.Proofs.Nw.K
