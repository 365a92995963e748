/- Bundle: NwXA, NwX11, NwX12, NwX13, NwX14, NwX15. -/
import Derived.Test.YtbooikopklijdaaGreatDoorNwN3
import Derived.LaidEqlPtr
import Derived.Lib.Builder
import Derived.Laws.MakeOwn
import Derived.Laws.Cover2
import Derived.Laws.CopyRow
import Derived.Lib.UnsafeStr
import Derived.ScopeJumps
set_option linter.constructorNameAsVariable false
set_option linter.unusedVariables false
set_option linter.unusedSimpArgs false
set_option linter.unusedSectionVars false
section
/- XA: more operations: shifts, floats, the same pointer twice, fields of structs, new slices, clear, copy, cap, texts out of bytes without a copy. -/
open Go Go.RowKit
set_option linter.unusedVariables false
set_option linter.unusedSimpArgs false
namespace Go.Proofs.Nw.X
open Go.Proofs.Nw.K
noncomputable def eqLs {α : Type} (e : α → α → Bool) (x : List α) : List α → Bool :=
  List.rec (motive := fun _ => List α → Bool) (fun y => List.casesOn y true fun _ _ => false) (fun a _ ih y => List.casesOn y false fun b r => cond (e a b) (ih r) false) x
theorem eqLs_ok {α : Type} {e : α → α → Bool} : ∀ {x y : List α}, (∀ a ∈ x, ∀ b, e a b = true → a = b) → eqLs e x y = true → x = y
  | [], [], _, _ => rfl
  | [], b :: r, _, h => by cases h
  | a :: x, [], _, h => by cases h
  | a :: x, b :: r, he, h => by
    have h : cond (e a b) (eqLs e x r) false = true := h
    cases hc : e a b with
    | false => rw [hc] at h; cases h
    | true =>
      rw [hc] at h
      rw [he a (by simp) b hc, eqLs_ok (fun a ha => he a (by simp [ha])) h]
noncomputable def qN (q : Q) : Nat := Q.casesOn q 0 1 2 3
noncomputable def eqQ (a b : Q) : Bool := Nat.beq (qN a) (qN b)
theorem eqQ_ok {a b : Q} (h : eqQ a b = true) : a = b := by
  have := Nat.eq_of_beq_eq_true h
  cases a <;> cases b <;> first | rfl | (exact absurd this (by decide))
noncomputable def eqId : Id → Id → Bool := eqLs eqQ
theorem eqId_ok {a b : Id} (h : eqId a b = true) : a = b := eqLs_ok (fun _ _ _ => eqQ_ok) h
theorem cond_and {a b : Bool} (h : cond a b false = true) : a = true ∧ b = true := by cases a <;> simp_all
theorem nbeq {a b : Nat} (h : Nat.beq a b = true) : a = b := Nat.eq_of_beq_eq_true h
def FlOk (P : Program) (M : MTab) : Prop := (∀ t, M.fl t = true → P.underlying t = some (.float .f64)) ∧
  (∀ s f k, M.fd s f = some k → ∀ (cs : Array Value) (v : Value) (w : World), cs[k]? = some v → (Instr.field s (.agg cs) f).run P w = .ok v w) ∧
  ∀ t e, M.pe t = some e → P.underlying t = some (.pointer e) ∧ P.cellsOf e = 1
noncomputable def bitsN (k : IntKind) : Nat := IntKind.casesOn k 8 16 32 64 8 16 32 64
theorem bitsN_eq (k : IntKind) : bitsN k = k.bits := by cases k <;> rfl
noncomputable def evShr (k : IntKind) (a b : Nat) (kk : KP) : R := cond (Nat.blt b (bitsN k)) (fN (Nat.div a (Nat.pow 2 b)) fun r => kk (.i k (.ofNat r))) none
noncomputable def evPp (T : Tab) (t : TypeId) (o : Id) (m : Nat) (o' : Id) (m' : Nat) (kk : KP) (r : Bool) : R := cond (T.pt t) (cond (Nat.beq m m') (cond (eqId o o') (kk (.b r)) none) none) none
noncomputable def evFadd (a b : Nat) (kk : KP) : R := match FloatKind.f64.format.add a b with | some r => fN r fun r => kk (.f64 r) | none => none
noncomputable def evBin2 (T : Tab) (op : BinOp) (t : TypeId) (x y : V) (kk : KP) : R :=
  match op, x, y with
  | .shr, .i k (.ofNat a), .i _ (.ofNat b) => evShr k a b kk
  | .add, .f64 a, .f64 b => evFadd a b kk
  | .eql, .p o m, .p o' m' => evPp T t o m o' m' kk true
  | .neq, .p o m, .p o' m' => evPp T t o m o' m' kk false
  | op, x, y => evBin T op t x y kk
section
variable {P : Program} {T : Tab} (hT : TabOk P T) {M : MTab} (hF : FlOk P M) {E : Operand → V} {kk : KP} {h : H} {n : Id} {k : KV}
include hT in
theorem bin2_ok (op : BinOp) (t ty : TypeId) (x y : Operand) : Pure P (.binOp op t x y ty) E kk (evBin2 T op t (E x) (E y) kk) := by
  unfold evBin2
  split
  · rename_i ki a kj b hx hy
    unfold evShr
    rw [blt_eq, bitsN_eq, fN_eq]
    by_cases hc : b < ki.bits
    case neg => simp only [hc, decide_false, cond_false]; exact pure_none
    simp only [hc, decide_true, cond_true]
    refine pure_one fun h n o ho w0 ι ρ w hb hρ => ?_
    have h1 := hρ x (by simp [Op.operands])
    have h2 := hρ y (by simp [Op.operands])
    rw [hx] at h1
    rw [hy] at h2
    have h1 : ρ x = .int ki (a : Int) := h1
    have h2 : ρ y = .int kj (b : Int) := h2
    refine ⟨_, ?_, rfl⟩
    have hm : min b ki.bits = b := by omega
    have hs : (binOp .shr t (.int ki (a : Int)) (.int kj (b : Int))).run P w = .ok (.int ki ((a / 2 ^ b : Nat) : Int)) w := by
      show (Op.shift .shr ki (a : Int) kj (b : Int)).run P w = _
      unfold Op.shift
      have hn : ¬ (b : Int) < 0 := by omega
      rw [if_neg hn]
      simp only [Int.toNat_natCast, hm, Sem.run_pure]
      have e2 : ((2 : Int) ^ b) = ((2 ^ b : Nat) : Int) := by simp
      rw [e2, Int.fdiv_eq_ediv_of_nonneg _ (Int.natCast_nonneg _), Int.natCast_ediv]
    have hg : (eqGuard .shr t x y (.int ki (a : Int)) (.int kj (b : Int))).run P w = .ok () w := rfl
    simp only [execOp, ho, h1, h2, Sem.run_bind, hg, hs, Result.andThen_ok, Sem.run_pure]
    rfl
  · rename_i a b hx hy
    unfold evFadd
    split
    · rename_i r hr
      rw [fN_eq]
      refine pure_one fun h n o ho w0 ι ρ w hb hρ => ?_
      have h1 := hρ x (by simp [Op.operands])
      have h2 := hρ y (by simp [Op.operands])
      rw [hx] at h1
      rw [hy] at h2
      have h1 : ρ x = .float .f64 a := h1
      have h2 : ρ y = .float .f64 b := h2
      refine ⟨_, ?_, rfl⟩
      have hs : (binOp .add t (.float .f64 a) (.float .f64 b)).run P w = .ok (.float .f64 r) w := by
        have e : binOp .add t (.float .f64 a) (.float .f64 b) = Op.floatArith .add .f64 a b := rfl
        rw [e]
        unfold Op.floatArith
        simp [hr]
      have hg : (eqGuard .add t x y (.float .f64 a) (.float .f64 b)).run P w = .ok () w := rfl
      simp only [execOp, ho, h1, h2, Sem.run_bind, hg, hs, Result.andThen_ok, Sem.run_pure]
    · exact pure_none
  · rename_i o m o' m' hx hy
    unfold evPp
    cases hp : T.pt t with
    | false => exact pure_none
    | true =>
      rw [beq_eq]
      by_cases hm : m = m'
      case neg => simp only [hm, decide_false, cond_true, cond_false]; exact pure_none
      cases he : eqId o o' with
      | false => simp only [hm, decide_true, cond_true, cond_false]; exact pure_none
      | true =>
        simp only [hm, decide_true, cond_true]
        have he := eqId_ok he
        subst he hm
        refine pure_one fun h n o2 ho w0 ι ρ w hb hρ => ?_
        have h1 := hρ x (by simp [Op.operands])
        have h2 := hρ y (by simp [Op.operands])
        rw [hx] at h1
        rw [hy] at h2
        obtain ⟨pl, e1, h1⟩ := h1
        obtain ⟨pl', e2, h2⟩ := h2
        rw [e1] at e2; cases e2
        obtain ⟨e, j, h5, h6⟩ := ptrT_spec (hT.pt t hp)
        have := run_eql_ptr_same (P := P) w ⟨pl.b, pl.m + m, none⟩ h5 h6
        exact ⟨.bool true, by simp [execOp, ho, h1, h2, eqGuard_ptr, this], rfl⟩
  · rename_i o m o' m' hx hy
    unfold evPp
    cases hp : T.pt t with
    | false => exact pure_none
    | true =>
      rw [beq_eq]
      by_cases hm : m = m'
      case neg => simp only [hm, decide_false, cond_true, cond_false]; exact pure_none
      cases he : eqId o o' with
      | false => simp only [hm, decide_true, cond_true, cond_false]; exact pure_none
      | true =>
        simp only [hm, decide_true, cond_true]
        have he := eqId_ok he
        subst he hm
        refine pure_one fun h n o2 ho w0 ι ρ w hb hρ => ?_
        have h1 := hρ x (by simp [Op.operands])
        have h2 := hρ y (by simp [Op.operands])
        rw [hx] at h1
        rw [hy] at h2
        obtain ⟨pl, e1, h1⟩ := h1
        obtain ⟨pl', e2, h2⟩ := h2
        rw [e1] at e2; cases e2
        obtain ⟨e, j, h5, h6⟩ := ptrT_spec (hT.pt t hp)
        have := Lib.run_neq_ptr_same (P := P) w ⟨pl.b, pl.m + m, none⟩ h5 h6
        exact ⟨.bool false, by simp [execOp, ho, h1, h2, eqGuard_ptr, this], rfl⟩
  · exact evBin_ok hT _ _ _ _ _
noncomputable def evFld (M : MTab) (s : TypeId) (f : Nat) (x : V) (kk : KP) : R :=
  match x, M.fd s f with
  | .ag cs, some i => (match getL i cs with | some v => kk v | none => none)
  | _, _ => none
include hF in
theorem fld_ok (s : TypeId) (f : Nat) (x : Operand) : Pure P (.field s x f) E kk (evFld M s f (E x) kk) := by
  unfold evFld
  split
  · rename_i cs i hx hfd
    rw [getL_eq]
    split
    · rename_i v hv
      refine pure_one fun h n o ho w0 ι ρ w hb hρ => ?_
      have h1 := hρ x (by simp [Op.operands])
      rw [hx] at h1
      obtain ⟨us, e1, hr⟩ := h1
      obtain ⟨u, a1, a2⟩ := hr.get hv
      have := hF.2.1 s f i hfd us.toArray u w (by simpa using a1)
      exact ⟨u, by simp [execOp, ho, e1, this], a2⟩
    · exact pure_none
  · exact pure_none
noncomputable def evReal (x : V) (kk : KP) : R := match x with | .c64 a _ => kk (.f64 a) | _ => none
noncomputable def evCplx (x y : V) (kk : KP) : R := match x, y with | .f64 a, .f64 b => kk (.c64 a b) | _, _ => none
theorem real_ok (x : Operand) (ts : Array TypeId) : Pure P (.call { callee := .builtin .real, args := #[x], argTypes := ts }) E kk (evReal (E x) kk) := by
  unfold evReal
  split
  · rename_i a b hx
    refine pure_one fun h n o ho w0 ι ρ w hb hρ => ?_
    have h1 := hρ x (by simp [Op.operands, Call.operands])
    rw [hx] at h1
    have h1 : ρ x = _ := h1
    have hr : (Builtin.real_ ts o.type #[.complex .f64 a b]).run P w = .ok (.float .f64 a) w := rfl
    exact ⟨_, by simp [execOp, ho, resolve, h1, invoke, builtin, hr], rfl⟩
  · exact pure_none
theorem cplx_ok (x y : Operand) (ts : Array TypeId) : Pure P (.call { callee := .builtin .complex, args := #[x, y], argTypes := ts }) E kk (evCplx (E x) (E y) kk) := by
  unfold evCplx
  split
  · rename_i a b hx hy
    refine pure_one fun h n o ho w0 ι ρ w hb hρ => ?_
    have h1 := hρ x (by simp [Op.operands, Call.operands])
    have h2 := hρ y (by simp [Op.operands, Call.operands])
    rw [hx] at h1
    rw [hy] at h2
    have h1 : ρ x = _ := h1
    have h2 : ρ y = _ := h2
    have hr : (Builtin.complex_ ts o.type #[.float .f64 a, .float .f64 b]).run P w = .ok (.complex .f64 a b) w := rfl
    exact ⟨_, by simp [execOp, ho, resolve, h1, h2, invoke, builtin, hr], rfl⟩
  · exact pure_none
noncomputable def evCap (T : Tab) (t : TypeId) (x : V) (kk : KP) : R := match x, T.kd t with | .ns, .slice _ => kk (.i .i64 (.ofNat 0)) | _, _ => none
include hT in
theorem cap_ok (t : TypeId) (x : Operand) : Pure P (.call { callee := .builtin .cap, args := #[x], argTypes := #[t] }) E kk (evCap T t (E x) kk) := by
  unfold evCap
  split
  · rename_i e hx hk
    refine pure_one fun h n o ho w0 ι ρ w hb hρ => ?_
    have h1 := hρ x (by simp [Op.operands, Call.operands])
    rw [hx] at h1
    have h1 : ρ x = _ := h1
    have hu := hT.kslice _ _ hk
    exact ⟨.int .i64 0, by simp [execOp, ho, resolve, h1, invoke, builtin, Builtin.cap_, run_underlying hu, goInt], rfl⟩
  · exact pure_none
noncomputable def evSld (x : V) (kk : KP) : R := match x with | .ns => kk .np | .sl o _ off len => cond (Nat.blt 0 len) (kk (.p o off)) none | _ => none
theorem sld_ok (x : Operand) (ts : Array TypeId) : Pure P (.call { callee := .builtin .unsafeSliceData, args := #[x], argTypes := ts }) E kk (evSld (E x) kk) := by
  unfold evSld
  split
  · rename_i hx
    refine pure_one fun h n o ho w0 ι ρ w hb hρ => ?_
    have h1 := hρ x (by simp [Op.operands, Call.operands])
    rw [hx] at h1
    have h1 : ρ x = _ := h1
    exact ⟨_, by simp [execOp, ho, resolve, h1, invoke, builtin, Lib.run_unsafeSliceData_nil], rfl⟩
  · rename_i so sz off len hx
    rw [blt_eq]
    by_cases hl : 0 < len
    case neg => simp only [hl, decide_false, cond_false]; exact pure_none
    simp only [hl, decide_true, cond_true]
    refine pure_one fun h n o ho w0 ι ρ w hb hρ => ?_
    have h1 := hρ x (by simp [Op.operands, Call.operands])
    rw [hx] at h1
    obtain ⟨pl, c, e1, h2, h3, ⟨h4, h5, h6⟩ | ⟨h4, a, h6⟩⟩ := h1
    · have := Lib.run_unsafeSliceData_row (P := P) w ts o.type ⟨pl.b, pl.m + off, none⟩ len c (by omega)
      exact ⟨_, by simp [execOp, ho, resolve, h6, invoke, builtin, this], pl, e1, rfl⟩
    · omega
  · exact pure_none
noncomputable def evMkSl (T : Tab) (t : TypeId) (l c : V) (h : H) (n : Id) (k : KV) : R :=
  match l, c, T.ap t, T.bb t with
  | .i _ (.ofNat a), .i _ (.ofNat b), some (e, sz, by_), none => cond (Nat.beq a b) (cond (Nat.ble by_ 1048576) (cond (Nat.ble a 1048576) (match T.zd e, nxt n with
    | some zs, some n' => cond (Nat.beq (lenL zs) sz) (cond (allL (repLL (zeroV zs) a)) (k (.sl n sz 0 a) (hset (.cs 0 0 (repLL (zeroV zs) a)) n h) n') none) none
    | _, _ => none) none) none) none
  | _, _, _, _ => none
include hT in
theorem mkSl_ok (t : TypeId) (l c : Operand) : Ob P (.makeSlice t l c) E h n k (evMkSl T t (E l) (E c) h n k) := by
  unfold evMkSl
  split
  · rename_i ka a kb b e sz by_ hl hc hap hbb
    rw [beq_eq, ble_eq, ble_eq]
    refine ob_cond fun c1 => ob_cond fun c2 => ob_cond fun c3 => ?_
    have c1 := of_decide_eq_true c1
    have c2 := of_decide_eq_true c2
    have c3 := of_decide_eq_true c3
    subst c1
    split
    · rename_i zs n' hz hn
      rw [beq_eq, lenL_eq]
      refine ob_cond fun c4 => ob_cond fun c5 => ?_
      have c4 := of_decide_eq_true c4
      obtain ⟨hu, i, z, hi, hzz, hs, hby, hzs, hpos⟩ := appT_spec (hT.ap _ _ hap)
      obtain ⟨i', zv, hi', hz', hrz⟩ := zeroD_spec (hT.zd _ _ hz)
      rw [hi] at hi'; cases hi'
      rw [hzz] at hz'; cases hz'
      refine ob_mk fun o ho w0 ι ρ w hb hρ => ?_
      have h1 := hρ l (by simp [Op.operands])
      have h2 := hρ c (by simp [Op.operands])
      rw [hl] at h1
      rw [hc] at h2
      have h1 : ρ l = .int ka (a : Int) := h1
      have h2 : ρ c = .int kb (a : Int) := h2
      have hbytes : i.bytes * a ≤ 281474976710656 := by
        rw [hby]; exact Nat.le_trans (Nat.mul_le_mul c2 c3) (by decide)
      have hbi : (i.bytes : Int) * (a : Int) ≤ 281474976710656 := by
        have h : ((i.bytes * a : Nat) : Int) ≤ 281474976710656 := by omega
        rwa [Int.natCast_mul] at h
      have hr := run_make (P := P) w t e i z hu hi hzz ka kb a a (by omega) (Int.le_refl _) hbi (by omega)
      simp only [Int.toNat_natCast] at hr
      have hrun : (execOp ρ o).run P w = .ok (.value (.slice (some ⟨w.heap.size, 0, none⟩) a a)) (w.alloc (.cells (madeCells z.cells (a * i.size)) e)) := by
        simp [execOp, ho, h1, h2, hr]
      rw [hrun]
      have hzl : (zeroV zs).length = sz := by unfold zeroV; rw [mapL_eq]; simpa using c4
      have hcells : RVs ι (repLL (zeroV zs) a) (madeCells z.cells (a * i.size)).toList := by
        have := repLL_ok (ι := ι) (zeroV_ok hrz) (by omega) a
        rw [hzl] at this
        rw [hs]; exact this
      have hlen : (repLL (zeroV zs) a).length = (madeCells z.cells (a * i.size)).size := by have := hcells.length; simpa using this.symm
      have ht : (madeCells z.cells (a * i.size)).toList.take (repLL (zeroV zs) a).length = (madeCells z.cells (a * i.size)).toList := by rw [hlen, ← Array.length_toList, List.take_length]
      obtain ⟨h3, h4⟩ := new_cells hb hn (madeCells z.cells (a * i.size)) e (0, 0) 0 0 _ (fun h => absurd rfl h) (by rw [ht]; exact hcells) (by omega) (by rw [ht]; exact cells_one hcells c5) (fun off _ _ => by simp) (World.grownBy_alloc w _ none) (Nat.le_refl _) (heap_alloc_new w _)
      have hsm : (madeCells z.cells (a * i.size)).size = a * sz := by rw [size_madeCells, hs]
      refine ⟨_, h3, h4, ⟨w.heap.size, 0, (madeCells z.cells (a * i.size)).size⟩, a, upI_same _ _ _, Nat.le_refl _, by simp only [maxLen]; omega, ?_⟩
      by_cases h0 : 0 < a
      · exact .inl ⟨h0, by simp only; omega, by simp⟩
      · exact .inr ⟨by omega, _, by rw [show a = 0 by omega]⟩
    · exact ob_none
  · exact ob_none
noncomputable def evClear (T : Tab) (t : TypeId) (x : V) (h : H) (n : Id) (k : KV) : R :=
  match x, T.kd t with
  | .ns, .slice _ => k (.tp []) h n
  | .sl o sz off len, .slice e => cond (Nat.beq len 0) (k (.tp []) h n) (match T.zd e, hget o h with
    | some zs, some (.cs ty fz xs) => cond (Nat.beq (lenL zs) sz) (cond (Nat.blt 0 sz) (cond (allL (zeroV zs)) (cond (Nat.ble fz off) (cond (Nat.ble (off + len * sz) (lenL xs)) (k (.tp []) (hset (.cs 0 fz (blitL (repLL (zeroV zs) len) off xs)) o h) n) none) none) none) none) none
    | _, _ => none)
  | _, _ => none
theorem repLL_mem {z : List V} {x : V} : ∀ {n : Nat}, x ∈ repLL z n → x ∈ z
  | 0, h => by cases h
  | n + 1, h => by
    have h : x ∈ appL z (repLL z n) := h
    rw [appL_eq, List.mem_append] at h
    exact h.elim id repLL_mem
include hT in
theorem clear_ok (t : TypeId) (x : Operand) : Ob P (.call { callee := .builtin .clear, args := #[x], argTypes := #[t] }) E h n k (evClear T t (E x) h n k) := by
  unfold evClear
  have cal : ∀ {ρ : Operand → Value} {o : Oper} {w w' : World}, o.op = .call { callee := .builtin .clear, args := #[x], argTypes := #[t] } → (Builtin.clear_ #[t] o.type #[ρ x]).run P w = .ok (.tuple #[]) w' → (execOp ρ o).run P w = .ok (.value (.tuple #[])) w' := fun ho hr => by
    simp [execOp, ho, resolve, invoke, builtin, hr]
  split
  · rename_i e hx hk
    refine ob_mk (xop_pure fun o ho w0 ι ρ w hb hρ => ?_)
    have h1 := hρ x (by simp [Op.operands, Call.operands])
    rw [hx] at h1
    have h1 : ρ x = _ := h1
    have hu := hT.kslice _ _ hk
    exact ⟨_, cal ho (by simp [h1, Builtin.clear_, run_underlying hu]), [], rfl, rfl⟩
  · rename_i so sz off len e hx hk
    have hu := hT.kslice _ _ hk
    rw [beq_eq]
    by_cases h0 : len = 0
    · simp only [h0, decide_true, cond_true]
      refine ob_mk (xop_pure fun o ho w0 ι ρ w hb hρ => ?_)
      have h1 := hρ x (by simp [Op.operands, Call.operands])
      rw [hx] at h1
      subst h0
      obtain ⟨pl, c, e1, h2, h3, ⟨h4, h5, h6⟩ | ⟨h4, a, h6⟩⟩ := h1
      · exact ⟨_, cal ho (by simp [h6, Builtin.clear_, run_underlying hu]), [], rfl, rfl⟩
      · exact ⟨_, cal ho (by simp [h6, Builtin.clear_, run_underlying hu]), [], rfl, rfl⟩
    · simp only [h0, decide_false, cond_false]
      split
      · rename_i zs ty fz xs hz hg
        rw [beq_eq, blt_eq, ble_eq, ble_eq, lenL_eq, lenL_eq]
        refine ob_cond fun c1 => ob_cond fun c2 => ob_cond fun c3 => ob_cond fun c4 => ob_cond fun c5 => ?_
        have c1 := of_decide_eq_true c1
        have c2 := of_decide_eq_true c2
        have c4 := of_decide_eq_true c4
        have c5 := of_decide_eq_true c5
        obtain ⟨i, zv, hi, hz', hrz⟩ := zeroD_spec (hT.zd _ _ hz)
        have hzl : (zeroV zs).length = sz := by unfold zeroV; rw [mapL_eq]; simpa using c1
        refine ob_mk fun o ho w0 ι ρ w hb hρ => ?_
        have h1 := hρ x (by simp [Op.operands, Call.operands])
        rw [hx] at h1
        obtain ⟨pl, c, e1, h2, h3, ⟨h4, h5, h6⟩ | ⟨h4, a, h6⟩⟩ := h1
        case inr => omega
        obtain ⟨vals, e', fr, g1, g2, g3, g4, g5, _⟩ := hb.obj _ _ _ e1 hg
        have hzc : zv.cells.size = sz := by have := (zeroV_ok hrz (ι := ι)).length; simp only [Array.length_toList] at this; omega
        have hcells : RVs ι (repLL (zeroV zs) len) (Builtin.zeroCells zv.cells len).toList := by
          have := repLL_ok (ι := ι) (zeroV_ok hrz) (by omega) len
          rw [hzl] at this
          unfold Builtin.zeroCells
          rw [hzc]; rw [hzc] at this; exact this
        have hall : allL (repLL (zeroV zs) len) = true := by
          have key : ∀ (l : List V), (∀ y ∈ l, one y = true) → allL l = true := fun l => by
            induction l with
            | nil => intro _; rfl
            | cons y l ih =>
              intro hy
              show cond (one y) (allL l) false = true
              rw [hy y (by simp), ih fun z hz => hy z (by simp [hz])]; rfl
          refine key _ fun y hy => ?_
          obtain ⟨j, hj⟩ := List.getElem?_of_mem (repLL_mem hy)
          exact allL_spec c3 j y hj
        have hlen : (repLL (zeroV zs) len).length = len * sz := by rw [repLL_len, hzl]
        have hul := hcells.length
        rw [hlen] at hul
        obtain ⟨w', cur', r1, r2, r3, r4, r5, r6, r7⟩ := run_storeCells (P := P) (b := pl.b) (o := pl.m + off) (e := e') (fr := fr) (Builtin.zeroCells zv.cells len).toList 0 vals w g1 (by omega) (fun off' b1 b2 => g5 off' (by omega) (by omega)) (cells_one hcells hall)
        have hrun : (Builtin.clear_ #[t] o.type #[ρ x]).run P w = .ok (.tuple #[]) w' := by
          rw [h6]
          cases len with
          | zero => exact absurd rfl h0
          | succ m => simp [Builtin.clear_, run_underlying hu, zeroValue, typeInfo, hi, hz', r1]
        rw [cal ho hrun]
        refine ⟨ι, Ext.refl _, hb.turn e1 ⟨_, hg, by intro e; cases e⟩ r2 r3 _ ⟨cur', e', fr, r5, by omega, by rw [blitL_eq]; simp [hlen]; omega, fun i y hy => ?_, (by rw [r6]; exact g5), fun h => absurd rfl h⟩, [], rfl, rfl⟩
        rw [blitL_eq, hlen, List.getElem?_append] at hy
        rw [r7]
        have lt1 : (xs.take off).length = off := by simp; omega
        rw [lt1] at hy
        split at hy
        · rename_i hi
          rw [List.getElem?_take_of_lt hi] at hy
          rw [if_neg (by omega)]
          exact g4 i y hy
        · rename_i hi
          rw [List.getElem?_append] at hy
          split at hy
          · rename_i hj
            rw [hlen] at hj
            obtain ⟨u, a1, a2⟩ := hcells.get hy
            refine ⟨u, by rw [if_pos (by omega), show pl.m + i - (pl.m + off + 0) = i - off by omega]; exact a1, a2, cells_one hcells hall u (List.mem_of_getElem? a1)⟩
          · rename_i hj
            rw [hlen] at hj hy
            rw [List.getElem?_drop] at hy
            rw [if_neg (by omega)]
            have := g4 _ y hy
            rw [show pl.m + (off + len * sz + (i - off - len * sz)) = pl.m + i by omega] at this
            exact this
      · exact ob_none
  · exact ob_none
noncomputable def evCopy (T : Tab) (t : TypeId) (x y : V) (kk : KP) : R := match x, y, T.bb t with | .sl _ _ _ 0, .ns, some _ => kk (.i .i64 (.ofNat 0)) | _, _, _ => none
include hT in
theorem copy_ok (t u : TypeId) (x y : Operand) : Pure P (.call { callee := .builtin .copy, args := #[x, y], argTypes := #[t, u] }) E kk (evCopy T t (E x) (E y) kk) := by
  unfold evCopy
  split
  · rename_i so sz off e hx hy hbb
    obtain ⟨hu, i, hi, hz, hsz, hby⟩ := byteT_spec (hT.bb _ _ hbb)
    refine pure_one fun h n o ho w0 ι ρ w hb hρ => ?_
    have h1 := hρ x (by simp [Op.operands, Call.operands])
    have h2 := hρ y (by simp [Op.operands, Call.operands])
    rw [hx] at h1
    rw [hy] at h2
    have h2 : ρ y = _ := h2
    obtain ⟨pl, c, e1, _, _, ⟨_, _, h6⟩ | ⟨hc0, a, h6⟩⟩ := h1
    · have := run_copy_nil (P := P) w t u o.type e ⟨pl.b, pl.m + off, none⟩ 0 c hu (by simp [hi])
      exact ⟨.int .i64 0, by simp [execOp, ho, resolve, h6, h2, invoke, builtin, this, goInt], rfl⟩
    · have := run_copy_nil (P := P) w t u o.type e a 0 0 hu (by simp [hi])
      exact ⟨.int .i64 0, by simp [execOp, ho, resolve, h6, h2, invoke, builtin, this, goInt], rfl⟩
  · exact pure_none
noncomputable def evUst (M : MTab) (t : TypeId) (x l : V) (h : H) (n : Id) (k : KV) : R :=
  match x, l, M.pe t with
  | .np, .i .i64 (.ofNat 0), _ => k (.s 0 0) h n
  | .p o 0, .i .i64 (.ofNat m), some e => cond (Nat.blt 0 m) (cond (Nat.ble m 16777216) (match hget o h with
    | some (.bs ty fz len b) => cond (Nat.beq ty (Nat.succ e)) (cond (Nat.ble m len) (fN (b / 256 ^ (len - m)) fun r => k (.s m r) (hset (.bs ty (cond (Nat.ble fz m) m fz) len b) o h) n) none) none
    | _ => none) none) none
  | _, _, _ => none
include hF in
theorem ust_ok (t u : TypeId) (x l : Operand) : Ob P (.call { callee := .builtin .unsafeString, args := #[x, l], argTypes := #[t, u] }) E h n k (evUst M t (E x) (E l) h n k) := by
  unfold evUst
  split
  · rename_i hx hl
    refine ob_mk (xop_pure fun o ho w0 ι ρ w hb hρ => ?_)
    have h1 := hρ x (by simp [Op.operands, Call.operands])
    have h2 := hρ l (by simp [Op.operands, Call.operands])
    rw [hx] at h1
    rw [hl] at h2
    have h1 : ρ x = _ := h1
    have h2 : ρ l = .int .i64 0 := h2
    have := Lib.run_unsafeString_none (P := P) w t u o.type none
    exact ⟨.string .empty, by simp [execOp, ho, resolve, h1, h2, invoke, builtin, this], .empty, rfl, rfl, rfl⟩
  · rename_i so m e hx hl hpe
    rw [blt_eq, ble_eq]
    refine ob_cond fun c0 => ob_cond fun c9 => ?_
    have c0 := of_decide_eq_true c0
    have c9 := of_decide_eq_true c9
    split
    · rename_i ty fz len b hg
      rw [beq_eq, ble_eq]
      refine ob_cond fun c1 => ob_cond fun c2 => ?_
      have c1 := of_decide_eq_true c1
      have c2 := of_decide_eq_true c2
      rw [fN_eq]
      obtain ⟨hpt, hce⟩ := hF.2.2 _ _ hpe
      refine ob_mk fun o ho w0 ι ρ w hb hρ => ?_
      have h1 := hρ x (by simp [Op.operands, Call.operands])
      have h2 := hρ l (by simp [Op.operands, Call.operands])
      rw [hx] at h1
      rw [hl] at h2
      obtain ⟨pl, e1, h1⟩ := h1
      have h2 : ρ l = .int .i64 (m : Int) := h2
      obtain ⟨vals, e', fr, bs, g1, g2, g3, g4, g5, g6, g7, g8⟩ := hb.obj _ _ _ e1 hg
      obtain ⟨z1, z2, z3⟩ := g8 (by rw [c1]; exact Nat.succ_ne_zero _)
      have z1 : e' = e := by rw [c1] at z1; exact Nat.succ.inj z1
      subst z1
      have hpm : pl.m + 0 = 0 := by omega
      rw [hpm] at h1
      have hml : m ≤ bs.length := by omega
      have hlt : (bs.take m).length = m := by simp; omega
      have hcell : ∀ j y, (bs.take m)[j]? = some y → w.cell? ((⟨pl.b, 0, none⟩ : Addr).add j) = some (.int .u8 y.toNat) := fun j y hy => by
        rw [List.getElem?_take] at hy
        split at hy
        · rw [K.add_lit, cell_of_row w _ _ vals e' fr g1]
          have := g6 j y hy
          rw [show pl.m + j = 0 + j by omega] at this
          exact this
        · cases hy
      have hus := Lib.run_unsafeString_row (P := P) w t u o.type e' hpt hce pl.b vals.size (by simp [World.shape?, g1]) (bs.take m) (fun hh => by rw [hh] at hlt; simp at hlt; omega) (by omega) (by omega) hcell
      rw [hlt] at hus
      have hrun : (execOp ρ o).run P w = .ok (.value (.string ⟨(bs.take m).toArray⟩)) (w.freeze ⟨pl.b, 0, none⟩ m) := by
        simp [execOp, ho, resolve, h1, h2, invoke, builtin, hus]
      rw [hrun]
      have hfz : w.freeze ⟨pl.b, 0, none⟩ m = { w with heap := w.heap.modify pl.b fun | .cells c elem (lo, hi) => .cells c elem (if lo == hi then (0, 0 + m) else (min lo 0, max hi (0 + m))) | o => o } := by
        unfold World.freeze
        rw [if_neg (by omega)]
        rfl
      have hbl : pl.b < w.heap.size := (Array.getElem?_eq_some_iff.1 g1).1
      obtain ⟨lo, hi⟩ := fr
      have z3 : lo = 0 := z3
      subst z3
      have hat : (w.freeze ⟨pl.b, 0, none⟩ m).heap[pl.b]? = some (.cells vals e' (0, if (0 : Nat) == hi then m else max hi m)) := by
        rw [hfz]
        simp only [Array.getElem?_modify, if_true, g1, Option.map_some, Nat.zero_add]
        by_cases hz : (0 : Nat) == hi
        · simp [hz]
        · simp [hz]
      refine ⟨ι, Ext.refl _, hb.turn e1 ⟨_, hg, by intro e; cases e⟩ (by
        rw [hfz]
        exact ⟨rfl, rfl, rfl, by simp, fun j _ hj => by
          have hne : pl.b ≠ j := fun hh => hj (by rw [hh])
          simp only [Array.getElem?_modify]
          rw [if_neg hne]⟩) (by rw [hfz]; exact Nat.le_refl _) _ ⟨vals, e', _, bs, hat, g2, g3, g4, g5, g6, fun off h3 h4 => ?_, fun _ => ⟨by rw [c1], z2, rfl⟩⟩, _, rfl, by simpa using hlt, ?_⟩
      · have h5 := g7 off h3 (by
          rw [ble_eq] at h4
          by_cases hq : fz ≤ m
          · simp only [hq, decide_true, cond_true] at h4; omega
          · simp only [hq, decide_false, cond_false] at h4; omega)
        have h6 : m ≤ off := by
          rw [ble_eq] at h4
          by_cases hq : fz ≤ m
          · simp only [hq, decide_true, cond_true] at h4; omega
          · simp only [hq, decide_false, cond_false] at h4; omega
        simp only at h5 ⊢
        intro hx2
        apply h5
        refine ⟨Nat.zero_le _, ?_⟩
        obtain ⟨_, h7⟩ := hx2
        split at h7 <;> omega
      · have := valB_take bs m hml
        rw [g4, g5] at this
        simpa using this
    · exact ob_none
  · exact ob_none
noncomputable def evCvp (n0 bT m : Nat) (x : V) (h : H) (n : Id) (k : KV) : R :=
  match x with
  | .p o 0 => (match hget o h with
    | some (.cs ty _ xs) => cond (Nat.beq ty (Nat.succ bT)) (cond (Nat.beq (lenL xs) m) (k (.p o 0) h n) none) none
    | _ => none)
  | _ => none
noncomputable def evConv2 (T : Tab) (M : MTab) (s d : TypeId) (x : V) (h : H) (n : Id) (k : KV) : R :=
  match T.cv s d with
  | some (bT, m) => evCvp 0 bT m x h n k
  | none => cond (M.fl d) (match T.kd s, x with | .int _, .i _ a => fN (FloatKind.f64.nearest a) fun r => k (.f64 r) h n | _, _ => none) (evConv T s d x h n k)
include hT hF in
theorem conv2_ok (h8 : u8T P T) (s d : TypeId) (x : Operand) : Ob P (.convert s d x) E h n k (evConv2 T M s d (E x) h n k) := by
  unfold evConv2
  split
  · rename_i bT m hcv
    unfold evCvp
    split
    · rename_i so hx
      split
      · rename_i ty fz xs hg
        rw [beq_eq, beq_eq, lenL_eq]
        refine ob_cond fun c1 => ob_cond fun c2 => ?_
        have c1 := of_decide_eq_true c1
        have c2 := of_decide_eq_true c2
        refine ob_mk (xop_pure fun o ho w0 ι ρ w hb hρ => ?_)
        have h1 := hρ x (by simp [Op.operands])
        rw [hx] at h1
        obtain ⟨pl, e1, h1⟩ := h1
        obtain ⟨vals, e', fr, g1, g2, g3, g4, g5, g6⟩ := hb.obj _ _ _ e1 hg
        obtain ⟨z1, z2, z3⟩ := g6 (by rw [c1]; exact Nat.succ_ne_zero _)
        have z1 : e' = bT := by rw [c1] at z1; exact Nat.succ.inj z1
        subst z1
        have hpm : pl.m + 0 = 0 := by omega
        have := hT.cv _ _ _ _ hcv w pl.b (by simp [World.shape?, g1, z3, c2])
        refine ⟨ρ x, by rw [h1, hpm]; simp [execOp, ho, h1, hpm, this], pl, e1, h1⟩
      · exact ob_none
    · exact ob_none
  · cases hf : M.fl d with
    | false => exact conv_ok hT h8 s d x
    | true =>
      simp only [cond_true]
      split
      · rename_i ki kj a hk hx
        rw [fN_eq]
        refine ob_mk (xop_pure fun o ho w0 ι ρ w hb hρ => ?_)
        have h1 := hρ x (by simp [Op.operands])
        rw [hx] at h1
        have h1 : ρ x = _ := h1
        have := run_convert_int_float (P := P) w s d kj .f64 a (by rw [hT.kint _ _ hk]; rfl) (hF.1 d hf)
        exact ⟨_, by simp [execOp, ho, h1, this, floatOfInt], rfl⟩
      · exact ob_none
end
end Go.Proofs.Nw.X
end
section
/- X11: code: operations one behind the other, branches, blocks, loops, jumps, calls. -/
open Go Go.RowKit
set_option linter.unusedVariables false
set_option linter.unusedSimpArgs false
namespace Go.Proofs.Nw.X
open Go.Proofs.Nw.K
abbrev Env := List V
noncomputable def rd (env : Env) (t : Nat) : V := match getL t env with | some v => v | none => .j
noncomputable def evE (env : Env) : Operand → V
  | .tmp t => rd env t
  | .const v => constV v
  | .func f => .fn f []
  | .global _ => .j
noncomputable def putE (dst : Option Tmp) (v : V) (env : Env) : Env := match dst with | some d => setL v d env | none => env
def XRel (N : Nat) (F : Fx) (ι0 : Io) (env : Env) (h : H) (n : Id) (a : Act) (w : World) : Prop :=
  a.tmps.size = N ∧ a.defers = [] ∧ env.length ≤ N ∧ ∃ ι, Ext ι0 ι ∧ HR F ι h n w ∧ ∀ t, RV ι (rd env t) (a.tmps.getD t undef)
theorem rd_set (env : Env) (d t : Nat) (v : V) : rd (setL v d env) t = if t = d ∧ d < env.length then v else rd env t := by
  unfold rd
  rw [getL_eq, setL_eq, getL_eq, List.getElem?_set]
  by_cases h1 : d = t
  · subst h1
    by_cases h2 : d < env.length
    · simp [h2]
    · simp [h2]
  · have : ¬ (t = d ∧ d < env.length) := fun h => h1 h.1.symm
    simp [h1, this]
theorem evE_ok {ι : Io} {env : Env} {a : Act} (h : ∀ t, RV ι (rd env t) (a.tmps.getD t undef)) (x : Operand) : RV ι (evE env x) (a.eval x) := by
  cases x with
  | tmp t => exact h t
  | const v => exact constV_ok ι v
  | global g => trivial
  | func f => exact ⟨[], rfl, rfl⟩
theorem xrel_put {N : Nat} {F : Fx} {ι0 ι : Io} {env : Env} {h : H} {n : Id} {a : Act} {w : World} (h1 : a.tmps.size = N) (h2 : a.defers = []) (h3 : env.length ≤ N) (he : Ext ι0 ι) (hb : HR F ι h n w) (hr : ∀ t, RV ι (rd env t) (a.tmps.getD t undef))
    (dst : Option Tmp) {v : V} {u : Value} (hv : RV ι v u) : XRel N F ι0 (putE dst v env) h n (a.put dst u) w := by
  cases dst with
  | none => exact ⟨h1, h2, h3, ι, he, hb, hr⟩
  | some d =>
    refine ⟨by simp [Act.put, h1], by simp [Act.put, h2], by simp only [putE, setL_eq, List.length_set]; exact h3, ι, he, hb, fun t => ?_⟩
    simp only [putE]
    rw [rd_set]
    by_cases hd : d < a.tmps.size
    · rw [K.put_getD a d t u hd]
      by_cases ht : t = d
      · rw [if_pos ht]
        split
        · exact hv
        · rename_i hn
          have : rd env t = .j := by
            unfold rd
            have hle : env.length ≤ t := by subst ht; simpa using hn
            rw [getL_eq, List.getElem?_eq_none hle]
          rw [this]; trivial
      · rw [if_neg ht, if_neg (fun hh => ht hh.1)]; exact hr t
    · have e1 : ¬ (t = d ∧ d < env.length) := fun hh => hd (by rw [h1]; exact Nat.lt_of_lt_of_le hh.2 h3)
      rw [if_neg e1]
      have e2 : (a.put (some d) u).tmps = a.tmps := by simp [Act.put, Array.setIfInBounds, hd]
      rw [e2]; exact hr t
abbrev Fn1 := List V → H → Id → KV → R
def Sd (P : Program) (f : FuncId) (g : Fn1) : Prop :=
  ∀ vs h n k r, g vs h n k = some r → ∃ v h' n', k v h' n' = some r ∧ ∀ F ι w (us : List Value), HR F ι h n w → RVs ι vs us → XOut P F ι v h' n' ((callFunc f us.toArray).run P w)
noncomputable def evCall (cf : FuncId → Fn1) (x : V) (args : List V) (h : H) (n : Id) (k : KV) : R := match x with | .fn f caps => cf f (appL args caps) h n k | _ => none
theorem call_ok {P : Program} {cf : FuncId → Fn1} (hcf : ∀ f, Sd P f (cf f)) {E : Operand → V} {h : H} {n : Id} {k : KV} (x : Operand) (args : Array Operand) (ts : Array TypeId) :
    Ob P (.call { callee := .value x, args := args, argTypes := ts }) E h n k (evCall cf (E x) (mapL E args.toList) h n k) := by
  unfold evCall
  split
  · rename_i f caps hx
    intro r hr
    rw [appL_eq, mapL_eq] at hr
    obtain ⟨v, h', n', h1, h2⟩ := hcf f _ _ _ _ _ hr
    refine ⟨v, h', n', h1, fun o ho F ι ρ w hb hρ => ?_⟩
    have hf := hρ x (by simp [Op.operands, Call.operands])
    rw [hx] at hf
    obtain ⟨us, hf, hc⟩ := hf
    have ha : RVs ι (args.toList.map E) (args.toList.map ρ) := RVs_iff.2 ⟨by simp, fun i y hy => by
      simp only [List.getElem?_map, Option.map_eq_some_iff] at hy
      obtain ⟨z, hz, rfl⟩ := hy
      exact ⟨ρ z, by simp [hz], hρ z (by
        have hm : z ∈ args := by rw [← Array.mem_toList_iff]; exact List.mem_of_getElem? hz
        simp only [Op.operands, Call.operands]
        exact Array.mem_append.2 (.inr hm))⟩⟩
    have h3 := h2 F ι w _ hb (ha.app hc)
    have he : args.map ρ ++ us.toArray = (args.toList.map ρ ++ us).toArray := by apply Array.ext'; simp
    have hrun : (execOp ρ o).run P w = (callFunc f (args.toList.map ρ ++ us).toArray).run P w := by
      simp only [execOp, ho, resolve, hf, Deferred.ofValue, Sem.run_bind, Sem.run_pure, Result.andThen_ok, invoke]
      rw [show (#[] ++ Array.map ρ args ++ us.toArray) = (args.toList.map ρ ++ us).toArray by rw [← he]; simp]
    rw [hrun]
    exact h3
  · exact ob_none
noncomputable def evNc' (x : V) (kk : KP) : R := match x with | .p o off => kk (.p o off) | .fn f cs => kk (.fn f cs) | _ => none
theorem nc_ok' {P : Program} {E : Operand → V} {kk : KP} (x : Operand) : Pure P (.nilCheck x) E kk (evNc' (E x) kk) := by
  unfold evNc'
  split
  · rename_i o' off hx
    refine pure_one fun h n o ho w0 ι ρ w hb hρ => ?_
    have h0 := hρ x (by simp [Op.operands])
    rw [hx] at h0
    obtain ⟨pl, e, h0⟩ := h0
    exact ⟨ρ x, by simp [execOp, ho, h0], pl, e, h0⟩
  · rename_i f cs hx
    refine pure_one fun h n o ho w0 ι ρ w hb hρ => ?_
    have h0 := hρ x (by simp [Op.operands])
    rw [hx] at h0
    obtain ⟨us, e, h0⟩ := h0
    exact ⟨ρ x, by simp [execOp, ho, e], us, e, h0⟩
  · exact pure_none
noncomputable def evOp (T : Tab) (M : MTab) (cf : FuncId → Fn1) (op : Op) (E : Operand → V) (h : H) (n : Id) (k : KV) : R :=
  match op with
  | .move x => k (E x) h n
  | .assign x => k (E x) h n
  | .pick c a b => evPick (E c) (E a) (E b) fun v => k v h n
  | .alloc t => evAlloc T t h n k
  | .box _ x => evBox (E x) h n k
  | .build t ps => evBuild T t (prt E ps.toList) fun v => k v h n
  | .buildSlice t l ps => evBuildSl T t l (prt E ps.toList) h n k
  | .insert t m key v => evMapUpd M t (E m) (E key) (E v) h n k
  | .load t a => evLoad T t (E a) h fun v => k v h n
  | .store t a x => evStore T t (E a) (E x) h n k
  | .nilCheck x => evNc' (E x) fun v => k v h n
  | .binOp op t x y _ => evBin2 T op t (E x) (E y) fun v => k v h n
  | .unOp op _ x => evUn op (E x) fun v => k v h n
  | .convert s d x => evConv2 T M s d (E x) h n k
  | .makeFunc (.func f) ⟨[]⟩ caps => evMakeFn E f caps.toList fun v => k v h n
  | .makeMap _ none => evMkMap h n k
  | .slice t x lo hi none => evSlc T t (E x) (lo.map E) (hi.map E) fun v => k v h n
  | .fieldAddr s x f => evFa T s f (E x) fun v => k v h n
  | .indexAddr t x i => evIa T t (E x) (E i) fun v => k v h n
  | .index t x i => evIx T t (E x) (E i) fun v => k v h n
  | .lookup t x i ok => evLook T M t (E x) (E i) ok h fun v => k v h n
  | .mapUpdate t m key v => evMapUpd M t (E m) (E key) (E v) h n k
  | .mapEntry t m key => evMapEnt T M t (E m) (E key) h n k
  | .entryStore _ m s v => evEntSt (E m) (E s) (E v) h n k
  | .extract x i => evExt i (E x) fun v => k v h n
  | .call { callee := .value f, args, .. } => evCall cf (E f) (mapL E args.toList) h n k
  | .call { callee := .builtin .append, args := ⟨[x, y]⟩, argTypes := ⟨[t, u]⟩ } => evApp T t u (E x) (E y) h n k
  | .call { callee := .builtin .len, args := ⟨[x]⟩, argTypes := ⟨[t]⟩ } => evLen T t (E x) fun v => k v h n
  | .call { callee := .builtin .max, args := ⟨[x, y]⟩, .. } => evMax (E x) (E y) fun v => k v h n
  | .field s x f => evFld M s f (E x) fun v => k v h n
  | .makeSlice t l c => evMkSl T t (E l) (E c) h n k
  | .call { callee := .builtin .cap, args := ⟨[x]⟩, argTypes := ⟨[t]⟩ } => evCap T t (E x) fun v => k v h n
  | .call { callee := .builtin .real, args := ⟨[x]⟩, .. } => evReal (E x) fun v => k v h n
  | .call { callee := .builtin .complex, args := ⟨[x, y]⟩, .. } => evCplx (E x) (E y) fun v => k v h n
  | .call { callee := .builtin .unsafeSliceData, args := ⟨[x]⟩, .. } => evSld (E x) fun v => k v h n
  | .call { callee := .builtin .unsafeString, args := ⟨[x, l]⟩, argTypes := ⟨[t, _]⟩ } => evUst M t (E x) (E l) h n k
  | .call { callee := .builtin .clear, args := ⟨[x]⟩, argTypes := ⟨[t]⟩ } => evClear T t (E x) h n k
  | .call { callee := .builtin .copy, args := ⟨[x, y]⟩, argTypes := ⟨[t, _]⟩ } => evCopy T t (E x) (E y) fun v => k v h n
  | _ => none
structure Ok (P : Program) (T : Tab) (M : MTab) (cf : FuncId → Fn1) : Prop where
  tT : TabOk P T
  u8 : u8T P T
  mM : MTabOk P M
  fl : FlOk P M
  cf : ∀ f, Sd P f (cf f)
theorem evOp_ok {P : Program} {T : Tab} {M : MTab} {cf : FuncId → Fn1} (O : Ok P T M cf) {E : Operand → V} {h : H} {n : Id} {k : KV} (op : Op) : Ob P op E h n k (evOp T M cf op E h n k) := by
  unfold evOp
  split
  · exact (move_ok _).ob
  · exact (assign_ok _).ob
  · exact (pick_ok _ _ _).ob
  · exact alloc_ok O.tT _
  · exact box_ok _ _
  · exact build_ok O.tT _ _
  · exact buildSl_ok O.tT _ _ _
  · exact mapUpd_ok O.mM _ _ _ _ _ (.inl rfl)
  · exact load_ok O.tT _ _
  · exact store_ok O.tT _ _ _
  · exact (nc_ok' _).ob
  · exact (bin2_ok O.tT _ _ _ _ _).ob
  · exact (un_ok _ _ _).ob
  · exact conv2_ok O.tT O.fl O.u8 _ _ _
  · exact (makeFn_ok _ _).ob
  · exact mkMap_ok _
  · exact (slc_ok O.tT _ _ _ _).ob
  · exact (fa_ok O.tT _ _ _).ob
  · exact (ia_ok O.tT _ _ _).ob
  · exact (ix_ok O.tT _ _ _).ob
  · exact look_ok O.tT O.mM _ _ _ _
  · exact mapUpd_ok O.mM _ _ _ _ _ (.inr rfl)
  · exact mapEnt_ok O.tT O.mM _ _ _
  · exact entSt_ok _ _ _ _
  · exact (ext_ok _ _).ob
  · exact call_ok O.cf _ _ _
  · exact app_ok O.tT _ _ _ _
  · exact (len_ok O.tT _ _).ob
  · exact (max_ok _ _ _).ob
  · exact (fld_ok O.fl _ _ _).ob
  · exact mkSl_ok O.tT _ _ _
  · exact (cap_ok O.tT _ _).ob
  · exact (real_ok _ _).ob
  · exact (cplx_ok _ _ _).ob
  · exact (sld_ok _ _).ob
  · exact ust_ok O.fl _ _ _ _
  · exact clear_ok O.tT _ _
  · exact (copy_ok O.tT _ _ _ _).ob
  · exact ob_none
end Go.Proofs.Nw.X
end
section
/- X12: code: regions in the order of the text, branches, blocks, loops, jumps back; functions. -/
open Go Go.RowKit
set_option linter.unusedVariables false
set_option linter.unusedSimpArgs false
namespace Go.Proofs.Nw.X
open Go.Proofs.Nw.K
noncomputable def jp {α β : Type} (K : α) (f : α → β) : β := f K
abbrev KC := Env → H → Id → R
def XLift (N : Nat) (F : Fx) (ι0 : Io) (e : Exit) (env' : Env) (h' : H) (n' : Id) : Exit → Act → World → Prop := fun e2 a w => e2 = e ∧ XRel N F ι0 env' h' n' a w
def WX (P : Program) (N : Nat) (c : Code) (env : Env) (h : H) (n : Id) (e : Exit) (env' : Env) (h' : H) (n' : Id) : Prop := ∀ F ι0 a w, XRel N F ι0 env h n a w → c.wp P (XLift N F ι0 e env' h' n') a w
section
variable (T : Tab) (M : MTab) (cf : FuncId → Fn1)
noncomputable def guardV (ops : List Oper) (env : Env) (j : Nat) : V := match getL j ops with | some o => (match o.dst with | some d => rd env d | none => .j) | none => .j
noncomputable def gdB (x : V) (want : Bool) (A B : R) : R := match x with
  | .b c => cond (cond c want (notB want)) A B
  | .tp [] => B
  | _ => none
noncomputable def brB (x : V) (A B : R) : R := match x with | .b v => cond v A B | _ => none
noncomputable def evOp1 (ops : List Oper) (o : Oper) (env : Env) (h : H) (n : Id) (k : KC) : R :=
  match o.guard with
  | none => evOp T M cf o.op (evE env) h n fun v h n => k (putE o.dst v env) h n
  | some (j, want) => jp (fun (v : V) (h : H) (n : Id) => k (putE o.dst v env) h n) fun K => gdB (guardV ops env j) want (evOp T M cf o.op (evE env) h n K) (K (.tp []) h n)
noncomputable def evOps (ops : List Oper) (l : List Oper) : Env → H → Id → KC → R :=
  List.rec (motive := fun _ => Env → H → Id → KC → R) (fun env h n k => k env h n) (fun o _ ih env h n k => evOp1 T M cf ops o env h n fun env h n => ih env h n k) l
end
section
variable {P : Program} {T : Tab} {M : MTab} {cf : FuncId → Fn1} (O : Ok P T M cf) {N : Nat}
theorem op_wpX {o : Oper} {env : Env} {h h' : H} {n n' : Id} {v : V} (ho : XOp P o.op (evE env) h n v h' n') {F : Fx} {ι0 : Io} {a : Act} {w : World} (hr : XRel N F ι0 env h n a w) {K' : Act → World → Prop} {Q' : Exit → Act → World → Prop}
    (hk : ∀ a w, XRel N F ι0 (putE o.dst v env) h' n' a w → K' a w) : o.wp P a w K' Q' := by
  obtain ⟨h1, h2, h3, ι, he, hb, hv⟩ := hr
  have := ho o rfl F ι a.eval w hb (fun x _ => evE_ok hv x)
  unfold Oper.wp
  generalize (execOp a.eval o).run P w = r at *
  have up : ∀ {ι' : Io}, Ext ι ι' → ∀ t, RV ι' (rd env t) (a.tmps.getD t undef) := fun he' t => (hv t).mono he'
  cases r with
  | ok nx w' =>
    cases nx with
    | value u =>
      obtain ⟨ι', e1, hb', hu⟩ := this
      exact hk _ _ (xrel_put h1 h2 h3 (he.trans e1) hb' (up e1) o.dst hu)
    | skip =>
      obtain ⟨rfl, ι', e1, hb'⟩ := this
      exact hk _ _ (xrel_put h1 h2 h3 (he.trans e1) hb' (up e1) o.dst trivial)
    | enter f args =>
      refine Calls.mono this fun e w'' hq => ?_
      obtain ⟨u, rfl, ι', e1, hb', hu⟩ := hq
      exact hk _ _ (xrel_put h1 h2 h3 (he.trans e1) hb' (up e1) o.dst hu)
    | _ => exact this.elim
  | halt _ _ => exact this.elim
theorem guard_is {ops : List Oper} {j : Nat} {env : Env} {a : Act} {ι : Io} (hv : ∀ t, RV ι (rd env t) (a.tmps.getD t undef)) :
    (∀ c, guardV ops env j = .b c → yielded ops.toArray a.tmps j = some c) ∧ (guardV ops env j = .tp [] → yielded ops.toArray a.tmps j = none) := by
  unfold guardV yielded
  rw [getL_eq]
  have e : ops.toArray[j]? = ops[j]? := by simp
  rw [e]
  cases ho : ops[j]? with
  | none => exact ⟨fun c h => by simp at h, fun h => by simp at h⟩
  | some o =>
    simp only [Option.bind_some]
    cases hd : o.dst with
    | none => exact ⟨fun c h => by simp at h, fun h => by simp at h⟩
    | some d =>
      simp only [Option.bind_some]
      have hvd := hv d
      constructor
      · intro c hc
        rw [hc] at hvd
        have hvd : a.tmps.getD d undef = .bool c := hvd
        have hlt : d < a.tmps.size := by
          by_cases h : d < a.tmps.size
          · exact h
          · simp [Array.getD, h, undef] at hvd
        have : a.tmps[d]? = some (.bool c) := by
          rw [Array.getD_eq_getD_getElem?] at hvd
          simp [hlt] at hvd ⊢; exact hvd
        rw [this]
      · intro hc
        rw [hc] at hvd
        obtain ⟨us, e1, e2⟩ := hvd
        have e2 : us = [] := e2
        subst e2
        rw [Array.getD_eq_getD_getElem?] at e1
        cases hg : a.tmps[d]? with
        | none => rfl
        | some x => rw [hg] at e1; simp at e1; rw [e1]
include O in
theorem evOp1_ok {ops : List Oper} {o : Oper} {env : Env} {h : H} {n : Id} {k : KC} {r : V} (hr : evOp1 T M cf ops o env h n k = some r) : ∃ v h' n', k (putE o.dst v env) h' n' = some r ∧ ∀ F ι0 a w (rest : List Oper) (Q : Exit → Act → World → Prop), XRel N F ι0 env h n a w →
    (∀ a w, XRel N F ι0 (putE o.dst v env) h' n' a w → wpList P ops.toArray Q rest a w) → wpList P ops.toArray Q (o :: rest) a w := by
  have yes : ∀ {k : KV}, evOp T M cf o.op (evE env) h n k = some r → ∃ v h' n', k v h' n' = some r ∧ ∀ F ι0 a w (rest : List Oper) (Q : Exit → Act → World → Prop), XRel N F ι0 env h n a w → Region.wanted o (yielded ops.toArray a.tmps) = true →
      (∀ a w, XRel N F ι0 (putE o.dst v env) h' n' a w → wpList P ops.toArray Q rest a w) → wpList P ops.toArray Q (o :: rest) a w := fun {k} hr => by
    obtain ⟨v, h', n', h1, h2⟩ := evOp_ok O o.op _ hr
    refine ⟨v, h', n', h1, fun F ι0 a w rest Q hx hw hk => ?_⟩
    unfold wpList
    rw [if_pos hw]
    exact .inl (op_wpX h2 hx hk)
  have no : ∀ F ι0 a w (rest : List Oper) (Q : Exit → Act → World → Prop), XRel N F ι0 env h n a w → Region.wanted o (yielded ops.toArray a.tmps) = false →
      (∀ a w, XRel N F ι0 (putE o.dst (.tp []) env) h n a w → wpList P ops.toArray Q rest a w) → wpList P ops.toArray Q (o :: rest) a w := fun F ι0 a w rest Q hx hw hk => by
    unfold wpList
    rw [if_neg (by rw [hw]; exact Bool.false_ne_true)]
    obtain ⟨h1, h2, h3, ι, he, hb, hv⟩ := hx
    exact hk _ _ (xrel_put h1 h2 h3 he hb hv o.dst (v := .tp []) ⟨[], rfl, rfl⟩)
  unfold evOp1 at hr
  split at hr
  · rename_i hg
    obtain ⟨v, h', n', h1, h2⟩ := yes hr
    exact ⟨v, h', n', h1, fun F ι0 a w rest Q hx hk => h2 F ι0 a w rest Q hx (by simp [Region.wanted, hg]) hk⟩
  · rename_i j want hg
    unfold jp gdB at hr
    split at hr
    · rename_i c hc
      have hwant : ∀ F ι0 a w, XRel N F ι0 env h n a w → Region.wanted o (yielded ops.toArray a.tmps) = (c == want) := fun F ι0 a w hx => by
        obtain ⟨_, _, _, ι, _, _, hv⟩ := hx
        simp only [Region.wanted, hg, (guard_is hv).1 c hc]
        cases c <;> cases want <;> rfl
      have e : cond c want (notB want) = (c == want) := by cases c <;> cases want <;> rfl
      rw [e] at hr
      cases hcw : (c == want) with
      | true =>
        rw [hcw] at hr
        obtain ⟨v, h', n', h1, h2⟩ := yes (k := fun (v : V) (h : H) (n : Id) => k (putE o.dst v env) h n) hr
        exact ⟨v, h', n', h1, fun F ι0 a w rest Q hx hk => h2 F ι0 a w rest Q hx ((hwant F ι0 a w hx).trans hcw) hk⟩
      | false =>
        rw [hcw] at hr
        exact ⟨_, _, _, hr, fun F ι0 a w rest Q hx hk => no F ι0 a w rest Q hx ((hwant F ι0 a w hx).trans hcw) hk⟩
    · rename_i hc
      refine ⟨_, _, _, hr, fun F ι0 a w rest Q hx hk => no F ι0 a w rest Q hx ?_ hk⟩
      obtain ⟨_, _, _, ι, _, _, hv⟩ := hx
      simp only [Region.wanted, hg, (guard_is hv).2 hc]; rfl
    · cases hr
include O in
theorem evOps_ok {ops : List Oper} : ∀ {l : List Oper} {env : Env} {h : H} {n : Id} {k : KC} {r : V}, evOps T M cf ops l env h n k = some r → ∃ env' h' n', k env' h' n' = some r ∧ ∀ F ι0 a w (Q : Exit → Act → World → Prop), XRel N F ι0 env h n a w →
    (∀ a w, XRel N F ι0 env' h' n' a w → Q .normal a w) → wpList P ops.toArray Q l a w
  | [], env, h, n, k, r, hr => ⟨env, h, n, hr, fun F ι0 a w Q hx hk => hk a w hx⟩
  | o :: l, env, h, n, k, r, hr => by
    have hr' : evOp1 T M cf ops o env h n (fun env h n => evOps T M cf ops l env h n k) = some r := hr
    obtain ⟨v, h1, n1, e1, e2⟩ := evOp1_ok (N := N) O hr'
    obtain ⟨env2, h2, n2, e3, e4⟩ := evOps_ok e1
    exact ⟨env2, h2, n2, e3, fun F ι0 a w Q hx hk => e2 F ι0 a w l Q hx fun a w hx => e4 F ι0 a w Q hx hk⟩
include O in
theorem region_ok {id : Nat} {ops : Array Oper} {env : Env} {h : H} {n : Id} {k : KC} {r : V} (hr : evOps T M cf ops.toList ops.toList env h n k = some r) : ∃ env' h' n', k env' h' n' = some r ∧ WX P N (.region id ops false) env h n .normal env' h' n' := by
  obtain ⟨env', h', n', h1, h2⟩ := evOps_ok (N := N) O hr
  refine ⟨env', h', n', h1, fun F ι0 a w hx => ?_⟩
  refine wp_region_list ?_
  have := h2 F ι0 a w (XLift N F ι0 .normal env' h' n') hx fun a w hx => ⟨rfl, hx⟩
  simpa using this
end
def VT (l : List Nat) : Type := List.rec Unit (fun _ _ ih => V × ih) l
noncomputable def prj (l : List Nat) (env : Env) : VT l := List.rec (motive := VT) () (fun t _ ih => (rd env t, ih)) l
noncomputable def emb (N : Nat) (l : List Nat) : VT l → Env := List.rec (motive := fun l => VT l → Env) (fun _ => repL .j N) (fun t _ ih st => setL st.1 t (ih st.2)) l
noncomputable def embL (N : Nat) (l : List Nat) : List V → Env := List.rec (motive := fun _ => List V → Env) (fun _ => repL .j N) (fun t _ ih st => List.casesOn st (repL .j N) fun v r => setL v t (ih r)) l
theorem emb_len (N : Nat) : ∀ (l : List Nat) (st : VT l), (emb N l st).length = N
  | [], st => by show (repL V.j N).length = N; rw [repL_eq]; simp
  | t :: l, st => by show (setL st.1 t (emb N l st.2)).length = N; rw [setL_eq, List.length_set, emb_len N l st.2]
theorem embL_len (N : Nat) : ∀ (l : List Nat) (st : List V), (embL N l st).length = N
  | [], st => by show (repL V.j N).length = N; rw [repL_eq]; simp
  | t :: l, [] => by show (repL V.j N).length = N; rw [repL_eq]; simp
  | t :: l, v :: st => by show (setL v t (embL N l st)).length = N; rw [setL_eq, List.length_set, embL_len N l st]
theorem rd_rep (N t : Nat) : rd (repL .j N) t = .j := by
  unfold rd
  rw [getL_eq, repL_eq, List.getElem?_replicate]
  split <;> (rename_i h; split at h) <;> simp_all
theorem rd_emb (N : Nat) (env : Env) (t : Nat) : ∀ (l : List Nat), rd (emb N l (prj l env)) t = .j ∨ rd (emb N l (prj l env)) t = rd env t
  | [] => .inl (rd_rep N t)
  | s :: l => by
    have e : emb N (s :: l) (prj (s :: l) env) = setL (rd env s) s (emb N l (prj l env)) := rfl
    rw [e, rd_set]
    split
    · rename_i h; right; rw [h.1]
    · exact rd_emb N env t l
theorem XRel.emb {N : Nat} {F : Fx} {ι0 : Io} {env : Env} {h : H} {n : Id} {a : Act} {w : World} (hx : XRel N F ι0 env h n a w) (l : List Nat) : XRel N F ι0 (emb N l (prj l env)) h n a w := by
  obtain ⟨h1, h2, h3, ι, he, hb, hv⟩ := hx
  refine ⟨h1, h2, by rw [emb_len]; exact Nat.le_refl _, ι, he, hb, fun t => ?_⟩
  rcases rd_emb N env t l with e | e <;> rw [e]
  · trivial
  · exact hv t
inductive Ex where | ret | exit (i : Nat) | goto (l : Nat)
def Ex.to : Ex → Exit
  | .ret => .ret | .exit i => .exit i | .goto l => .goto l
inductive An where
  | z
  | q (a b : An)
  | s (l : List Nat) (a b : An)
  | c (a b : An)
  | b (l : List Nat) (a : An)
  | l (l : List Nat) (a : An)
  | o (a : An)
  | g (lab : Nat) (l l2 : List Nat) (a r : An)
abbrev Gam := Ex → List Nat
abbrev KX (Γ : Gam) := (e : Ex) → VT (Γ e) → H → Id → R
noncomputable def upE (Γ : Gam) (i : Nat) (l : List Nat) : Gam := fun e => match e with | .exit j => cond (Nat.beq j i) l (Γ (.exit j)) | e => Γ e
noncomputable def upG (Γ : Gam) (i : Nat) (l : List Nat) : Gam := fun e => match e with | .goto j => cond (Nat.beq j i) l (Γ (.goto j)) | e => Γ e
abbrev EC := Code → An → (Γ : Gam) → Env → H → Id → KC → KX Γ → R
abbrev DR := List Oper → Env → H → Id → KC → R
section
variable (T : Tab) (M : MTab) (cf : FuncId → Fn1) (dr : DR) (N fu : Nat)
noncomputable def kxE {Γ : Gam} (i : Nat) (l : List Nat) (K : VT l → H → Id → R) (kx : KX Γ) : KX (upE Γ i l) := fun e => match e with
  | .exit j => Bool.rec (motive := fun b => VT (cond b l (Γ (.exit j))) → H → Id → R) (kx (.exit j)) K (Nat.beq j i)
  | .ret => kx .ret
  | .goto j => kx (.goto j)
noncomputable def kxG {Γ : Gam} (i : Nat) (l : List Nat) (lo : VT l → H → Id → R) (kx : KX Γ) : KX (upG Γ i l) := fun e => match e with
  | .goto j => Bool.rec (motive := fun b => VT (cond b l (Γ (.goto j))) → H → Id → R) (fun _ _ _ => none) lo (Nat.beq j i)
  | .ret => kx .ret
  | .exit j => kx (.exit j)
noncomputable def kxO {Γ : Gam} (kx : KX Γ) : KX Γ := fun e => match e with | .exit j => kx (.exit j) | .ret => kx .ret | .goto _ => fun _ _ _ => none
noncomputable def stepC (ih : EC) : EC := fun c an Γ env h n kn kx =>
  match c, an with
  | .skip, _ => kn env h n
  | .label _, _ => kn env h n
  | .ret, _ => kx .ret (prj (Γ .ret) env) h n
  | .exit i, _ => kx (.exit i) (prj (Γ (.exit i)) env) h n
  | .goto i, _ => kx (.goto i) (prj (Γ (.goto i)) env) h n
  | .region _ ops false, _ => evOps T M cf ops.toList ops.toList env h n kn
  | .region _ ops true, _ => dr ops.toList env h n kn
  | .seq a b, .q x y => ih a x Γ env h n (fun env h n => ih b y Γ env h n kn kx) kx
  | .seq a b, .s l x y => jp (fun (st : VT l) (h : H) (n : Id) => ih b y Γ (emb N l st) h n kn kx) fun K => ih a x Γ env h n (fun env h n => K (prj l env) h n) kx
  | .cond t a b, .c x y => brB (evE env t) (ih a x Γ env h n kn kx) (ih b y Γ env h n kn kx)
  | .block i a, .b l x => jp (fun (st : VT l) (h : H) (n : Id) => kn (emb N l st) h n) fun K => ih a x (upE Γ i l) env h n (fun env h n => K (prj l env) h n) (kxE i l K kx)
  | .loop a, .l l x => Nat.rec (motive := fun _ => VT l → H → Id → R) (fun _ _ _ => none) (fun _ lo st h n => ih a x Γ (emb N l st) h n (fun env h n => lo (prj l env) h n) kx) fu (prj l env) h n
  | .scope a, .o x => ih a x Γ env h n kn (kxO kx)
  | .scope a, .g lab l l2 x r => (match findLabel a lab with
    | none => none
    | some rest => jp (fun (st : VT l2) (h : H) (n : Id) => kn (emb N l2 st) h n) fun K =>
      jp (Nat.rec (motive := fun _ => VT l → H → Id → R) (fun _ _ _ => none) (fun _ lo st h n => ih rest r (upG Γ lab l) (emb N l st) h n (fun env h n => K (prj l2 env) h n) (kxG lab l lo kx)) fu) fun lo =>
      ih a x (upG Γ lab l) env h n (fun env h n => K (prj l2 env) h n) (kxG lab l lo kx))
  | _, _ => none
noncomputable def evC (d : Nat) : EC := Nat.rec (motive := fun _ => EC) (fun _ _ _ _ _ _ _ _ => none) (fun _ ih => stepC T M cf dr N fu ih) d
end
def CS (P : Program) (N : Nat) (c : Code) (Γ : Gam) (env : Env) (h : H) (n : Id) (kn : KC) (kx : KX Γ) (r : R) : Prop :=
  ∀ x, r = some x → (∃ env' h' n', kn env' h' n' = some x ∧ WX P N c env h n .normal env' h' n') ∨ ∃ e st h' n', kx e st h' n' = some x ∧ WX P N c env h n e.to (emb N (Γ e) st) h' n'
def DrOk (P : Program) (N : Nat) (dr : DR) : Prop := ∀ id ops env h n k r, dr ops env h n k = some r → ∃ env' h' n', k env' h' n' = some r ∧ WX P N (.region id ops.toArray true) env h n .normal env' h' n'
end Go.Proofs.Nw.X
end
section
/- X13: what the evaluator tells of code, the code does; functions. -/
open Go Go.RowKit
set_option linter.unusedVariables false
set_option linter.unusedSimpArgs false
namespace Go.Proofs.Nw.X
open Go.Proofs.Nw.K
section
variable {P : Program} {N : Nat}
def WL (P : Program) (N : Nat) (c : Code) (env : Env) (h : H) (n : Id) (e : Exit) (env' : Env) (h' : H) (n' : Id) : Prop :=
  ∀ F ι0 a w, XRel N F ι0 env h n a w → ∀ (b : Frame) (k : List Item) (cs : List Frame), ∃ e2 a' w', XLift N F ι0 e env' h' n' e2 a' w' ∧ Arrives P (lone (b.at a (.code c :: .inLoop c :: k)) cs w) b k cs e2 a' w'
theorem WL.loop {c : Code} {env h n e env' h' n'} (hl : WL P N c env h n e env' h' n') : WX P N (.loop c) env h n e env' h' n' := fun F ι0 a w hx b k cs => by
  obtain ⟨e2, a', w', h1, h2⟩ := hl F ι0 a w hx b k cs
  exact ⟨e2, a', w', h1, .of_steps (.one step_loop) h2⟩
theorem WL.out {c : Code} {env h n env' h' n'} {e : Ex} (hx : WX P N c env h n e.to env' h' n') : WL P N c env h n e.to env' h' n' := fun F ι0 a w hr b k cs => by
  obtain ⟨e2, a', w', ⟨h1, h2⟩, harr⟩ := hx F ι0 a w hr b (.inLoop c :: k) cs
  subst h1
  refine ⟨_, a', w', ⟨rfl, h2⟩, ?_⟩
  cases e with
  | exit id => exact .pass (x := .inLoop c) rfl (fun _ _ => .inl (by simp [Ex.to])) harr
  | goto l => exact .pass (x := .inLoop c) rfl (fun _ _ => .inl (by simp [Ex.to])) harr
  | ret => exact .pass (x := .inLoop c) rfl (fun _ _ => .inl (by simp [Ex.to])) harr
theorem WL.next {c : Code} {env h n env1 h1 n1 e env' h' n'} (hx : WX P N c env h n .normal env1 h1 n1) (hl : WL P N c env1 h1 n1 e env' h' n') : WL P N c env h n e env' h' n' := fun F ι0 a w hr b k cs => by
  obtain ⟨e2, a', w', ⟨g1, g2⟩, harr⟩ := hx F ι0 a w hr b (.inLoop c :: k) cs
  subst g1
  obtain ⟨e3, a3, w3, q3, harr3⟩ := hl F ι0 a' w' g2 b k cs
  exact ⟨e3, a3, w3, q3, .of_steps (Steps.trans harr (.one step_inLoop)) harr3⟩
theorem WL.emb {c : Code} {env h n e env' h' n'} (l : List Nat) (hl : WL P N c (emb N l (prj l env)) h n e env' h' n') : WL P N c env h n e env' h' n' := fun F ι0 a w hr => hl F ι0 a w (hr.emb l)
theorem WX.emb {c : Code} {env h n e env' h' n'} (l : List Nat) (hl : WX P N c (emb N l (prj l env)) h n e env' h' n') : WX P N c env h n e env' h' n' := fun F ι0 a w hr => hl F ι0 a w (hr.emb l)
theorem WX.post {c : Code} {env h n e env' h' n'} (l : List Nat) (hl : WX P N c env h n e env' h' n') : WX P N c env h n e (X.emb N l (prj l env')) h' n' := fun F ι0 a w hr => Go.wp_mono (hl F ι0 a w hr) fun e2 a w q => ⟨q.1, q.2.emb l⟩
theorem WX.seq {c d : Code} {env h n env1 h1 n1 e env' h' n'} (hx : WX P N c env h n .normal env1 h1 n1) (hy : WX P N d env1 h1 n1 e env' h' n') : WX P N (.seq c d) env h n e env' h' n' := fun F ι0 a w hr =>
  Go.wp_seq (Go.wp_mono (hx F ι0 a w hr) fun e2 a w q => by
    obtain ⟨rfl, q⟩ := q
    exact hy F ι0 a w q)
theorem WX.seqOut {c d : Code} {env h n env' h' n'} {e : Ex} (hx : WX P N c env h n e.to env' h' n') : WX P N (.seq c d) env h n e.to env' h' n' := fun F ι0 a w hr =>
  Go.wp_seq (Go.wp_mono (hx F ι0 a w hr) fun e2 a w q => by
    obtain ⟨rfl, q⟩ := q
    cases e <;> exact ⟨rfl, q⟩)
def WS (P : Program) (N : Nat) (body rest : Code) (env : Env) (h : H) (n : Id) (e : Exit) (env' : Env) (h' : H) (n' : Id) : Prop :=
  ∀ F ι0 a w, XRel N F ι0 env h n a w → ∀ (b : Frame) (k : List Item) (cs : List Frame), ∃ e2 a' w', XLift N F ι0 e env' h' n' e2 a' w' ∧ Arrives P (lone (b.at a (.code rest :: .inScope body :: k)) cs w) b k cs e2 a' w'
theorem WS.scope {c : Code} {env h n e env' h' n'} (hl : WS P N c c env h n e env' h' n') : WX P N (.scope c) env h n e env' h' n' := fun F ι0 a w hx b k cs => by
  obtain ⟨e2, a', w', h1, h2⟩ := hl F ι0 a w hx b k cs
  exact ⟨e2, a', w', h1, .of_steps (.one step_scope) h2⟩
theorem WS.norm {body c : Code} {env h n env' h' n'} (hx : WX P N c env h n .normal env' h' n') : WS P N body c env h n .normal env' h' n' := fun F ι0 a w hr b k cs => by
  obtain ⟨e2, a', w', ⟨g1, g2⟩, harr⟩ := hx F ι0 a w hr b (.inScope body :: k) cs
  subst g1
  exact ⟨.normal, a', w', ⟨rfl, g2⟩, Steps.trans harr (.one step_inScope)⟩
theorem WS.exit {body c : Code} {env h n env' h' n'} {i : Nat} (hx : WX P N c env h n (.exit i) env' h' n') : WS P N body c env h n (.exit i) env' h' n' := fun F ι0 a w hr b k cs => by
  obtain ⟨e2, a', w', ⟨g1, g2⟩, harr⟩ := hx F ι0 a w hr b (.inScope body :: k) cs
  subst g1
  exact ⟨_, a', w', ⟨rfl, g2⟩, fun k' hk => harr k' (by simp [exitTo, hk])⟩
theorem WS.ret {body c : Code} {env h n env' h' n'} (hx : WX P N c env h n .ret env' h' n') : WS P N body c env h n .ret env' h' n' := fun F ι0 a w hr b k cs => by
  obtain ⟨e2, a', w', ⟨g1, g2⟩, harr⟩ := hx F ι0 a w hr b (.inScope body :: k) cs
  subst g1
  exact ⟨_, a', w', ⟨rfl, g2⟩, harr⟩
theorem WS.jump {body c rest : Code} {env h n env1 h1 n1 e env' h' n'} {l : Nat} (hf : findLabel body l = some rest) (hx : WX P N c env h n (.goto l) env1 h1 n1) (hy : WS P N body rest env1 h1 n1 e env' h' n') : WS P N body c env h n e env' h' n' := fun F ι0 a w hr b k cs => by
  obtain ⟨e2, a', w', ⟨g1, g2⟩, harr⟩ := hx F ι0 a w hr b (.inScope body :: k) cs
  subst g1
  have hg : gotoIn l (.inScope body :: k) = some (.code rest :: .inScope body :: k) := by simp [gotoIn, hf]
  obtain ⟨e3, a3, w3, q3, harr3⟩ := hy F ι0 a' w' g2 b k cs
  exact ⟨e3, a3, w3, q3, .of_steps (harr _ hg) harr3⟩
variable {T : Tab} {M : MTab} {cf : FuncId → Fn1} (O : Ok P T M cf) {dr : DR} (hdr : DrOk P N dr) {fu : Nat}
theorem cs_none {c Γ env h n kn kx} : CS P N c Γ env h n kn kx none := fun x hx => by cases hx
theorem block_case {c : Code} {i : Nat} {l : List Nat} {Γ : Gam} {env h n} {kn : KC} {kx : KX Γ} {x : V}
    (hs : (∃ env' h' n', kn (emb N l (prj l env')) h' n' = some x ∧ WX P N c env h n .normal env' h' n') ∨
      ∃ e st h' n', kxE i l (fun (st : VT l) (h : H) (n : Id) => kn (emb N l st) h n) kx e st h' n' = some x ∧ WX P N c env h n e.to (emb N (upE Γ i l e) st) h' n') :
    (∃ env' h' n', kn env' h' n' = some x ∧ WX P N (.block i c) env h n .normal env' h' n') ∨ ∃ e st h' n', kx e st h' n' = some x ∧ WX P N (.block i c) env h n e.to (emb N (Γ e) st) h' n' := by
  have out : ∀ {e : Exit} {env' h' n'}, WX P N c env h n e env' h' n' → (∀ j, e = .exit j → j ≠ i) → WX P N (.block i c) env h n e env' h' n' := fun {e env' h' n'} hx hne F ι0 a w hr =>
    Go.wp_block (Go.wp_mono (hx F ι0 a w hr) fun e2 a w q => by
      obtain ⟨rfl, q⟩ := q
      cases e2 with
      | exit j => simp only [Exit.inBlock]; rw [if_neg (hne j rfl)]; exact ⟨rfl, q⟩
      | _ => exact ⟨rfl, q⟩)
  rcases hs with ⟨env', h', n', h1, h2⟩ | ⟨e, st, h', n', h1, h2⟩
  · exact .inl ⟨_, h', n', h1, out (h2.post l) (fun j e => by cases e)⟩
  · cases e with
    | ret => exact .inr ⟨.ret, st, h', n', h1, out h2 (fun j e => by cases e)⟩
    | goto j => exact .inr ⟨.goto j, st, h', n', h1, out h2 (fun j e => by cases e)⟩
    | exit j =>
      have key : ∀ (b : Bool) (hb : Nat.beq j i = b) (st : VT (cond b l (Γ (.exit j)))), (Bool.rec (motive := fun b => VT (cond b l (Γ (.exit j))) → H → Id → R) (kx (.exit j)) (fun (st : VT l) (h : H) (n : Id) => kn (emb N l st) h n) b st h' n' : R) = some x →
          WX P N c env h n (.exit j) (emb N (cond b l (Γ (.exit j))) st) h' n' → (∃ env' h' n', kn env' h' n' = some x ∧ WX P N (.block i c) env h n .normal env' h' n') ∨ ∃ e st h' n', kx e st h' n' = some x ∧ WX P N (.block i c) env h n e.to (emb N (Γ e) st) h' n' := by
        intro b hb st q1 q2
        cases b with
        | true =>
          have hj : j = i := Nat.eq_of_beq_eq_true hb
          subst hj
          refine .inl ⟨_, h', n', q1, fun F ι0 a w hr => Go.wp_block (Go.wp_mono (q2 F ι0 a w hr) fun e2 a w q => ?_)⟩
          obtain ⟨rfl, q⟩ := q
          simp only [Exit.inBlock, if_true]; exact ⟨rfl, q⟩
        | false =>
          have hj : j ≠ i := fun e => by rw [beq_eq] at hb; simp [e] at hb
          exact .inr ⟨.exit j, st, h', n', q1, out q2 (fun j' e => by cases e; exact hj)⟩
      exact key _ rfl st h1 h2
include O hdr in
theorem stepC_ok {ih : EC} (IH : ∀ c an Γ env h n kn kx, CS P N c Γ env h n kn kx (ih c an Γ env h n kn kx)) (c : Code) (an : An) (Γ : Gam) (env : Env) (h : H) (n : Id) (kn : KC) (kx : KX Γ) :
    CS P N c Γ env h n kn kx (stepC T M cf dr N fu ih c an Γ env h n kn kx) := by
  unfold stepC
  split
  · exact fun x hx => .inl ⟨env, h, n, hx, fun F ι0 a w hr => Go.wp_skip ⟨rfl, hr⟩⟩
  · exact fun x hx => .inl ⟨env, h, n, hx, fun F ι0 a w hr => Go.wp_label ⟨rfl, hr⟩⟩
  · exact fun x hx => .inr ⟨.ret, _, h, n, hx, fun F ι0 a w hr => Go.wp_ret ⟨rfl, hr.emb _⟩⟩
  · exact fun x hx => .inr ⟨.exit _, _, h, n, hx, fun F ι0 a w hr => Go.wp_exit ⟨rfl, hr.emb _⟩⟩
  · exact fun x hx => .inr ⟨.goto _, _, h, n, hx, fun F ι0 a w hr => Go.wp_goto ⟨rfl, hr.emb _⟩⟩
  · intro x hx
    obtain ⟨env', h', n', h1, h2⟩ := region_ok (N := N) O hx
    exact .inl ⟨env', h', n', h1, h2⟩
  · rename_i id ops
    intro x hx
    obtain ⟨env', h', n', h1, h2⟩ := hdr id _ _ _ _ _ _ hx
    exact .inl ⟨env', h', n', h1, by simpa using h2⟩
  · intro x hx
    rcases IH _ _ _ _ _ _ _ _ x hx with ⟨env1, h1, n1, r1, w1⟩ | ⟨e, st, h1, n1, r1, w1⟩
    · rcases IH _ _ _ _ _ _ _ _ x r1 with ⟨env2, h2, n2, r2, w2⟩ | ⟨e, st, h2, n2, r2, w2⟩
      · exact .inl ⟨env2, h2, n2, r2, w1.seq w2⟩
      · exact .inr ⟨e, st, h2, n2, r2, w1.seq w2⟩
    · exact .inr ⟨e, st, h1, n1, r1, w1.seqOut⟩
  · rename_i l y z
    intro x hx
    rcases IH _ _ _ _ _ _ _ _ x hx with ⟨env1, h1, n1, r1, w1⟩ | ⟨e, st, h1, n1, r1, w1⟩
    · rcases IH _ _ _ _ _ _ _ _ x r1 with ⟨env2, h2, n2, r2, w2⟩ | ⟨e, st, h2, n2, r2, w2⟩
      · exact .inl ⟨env2, h2, n2, r2, w1.seq (w2.emb l)⟩
      · exact .inr ⟨e, st, h2, n2, r2, w1.seq (w2.emb l)⟩
    · exact .inr ⟨e, st, h1, n1, r1, w1.seqOut⟩
  · rename_i t p q y z
    unfold brB
    split
    · rename_i b hb
      have hc : ∀ F ι0 a w, XRel N F ι0 env h n a w → a.eval t = .bool b := fun F ι0 a w hr => by
        obtain ⟨_, _, _, ι, _, _, hv⟩ := hr
        have := evE_ok hv t
        rw [hb] at this; exact this
      cases b
      · intro x hx
        rcases IH _ _ _ _ _ _ _ _ x hx with ⟨env1, h1, n1, r1, w1⟩ | ⟨e, st, h1, n1, r1, w1⟩
        · exact .inl ⟨env1, h1, n1, r1, fun F ι0 a w hr => Go.wp_cond_false (hc F ι0 a w hr) (w1 F ι0 a w hr)⟩
        · exact .inr ⟨e, st, h1, n1, r1, fun F ι0 a w hr => Go.wp_cond_false (hc F ι0 a w hr) (w1 F ι0 a w hr)⟩
      · intro x hx
        rcases IH _ _ _ _ _ _ _ _ x hx with ⟨env1, h1, n1, r1, w1⟩ | ⟨e, st, h1, n1, r1, w1⟩
        · exact .inl ⟨env1, h1, n1, r1, fun F ι0 a w hr => Go.wp_cond_true (hc F ι0 a w hr) (w1 F ι0 a w hr)⟩
        · exact .inr ⟨e, st, h1, n1, r1, fun F ι0 a w hr => Go.wp_cond_true (hc F ι0 a w hr) (w1 F ι0 a w hr)⟩
    · exact cs_none
  · rename_i i p l y
    intro x hx
    refine block_case (l := l) ?_
    rcases IH _ _ _ _ _ _ _ _ x hx with ⟨env1, h1, n1, r1, w1⟩ | ⟨e, st, h1, n1, r1, w1⟩
    · exact .inl ⟨env1, h1, n1, r1, w1⟩
    · exact .inr ⟨e, st, h1, n1, r1, w1⟩
  · rename_i p l y
    have key : ∀ fu st h n x, (Nat.rec (motive := fun _ => VT l → H → Id → R) (fun _ _ _ => none) (fun _ lo st h n => ih p y Γ (emb N l st) h n (fun env h n => lo (prj l env) h n) kx) fu : VT l → H → Id → R) st h n = some x →
        ∃ e st' h' n', kx e st' h' n' = some x ∧ WL P N p (emb N l st) h n e.to (emb N (Γ e) st') h' n' := by
      intro fu
      induction fu with
      | zero => intro st h n x hx; cases hx
      | succ fu ihf =>
        intro st h n x hx
        rcases IH _ _ _ _ _ _ _ _ x hx with ⟨env1, h1, n1, r1, w1⟩ | ⟨e, st, h1, n1, r1, w1⟩
        · obtain ⟨e, st', h', n', r2, w2⟩ := ihf _ _ _ _ r1
          exact ⟨e, st', h', n', r2, WL.next w1 (w2.emb l)⟩
        · exact ⟨e, st, h1, n1, r1, WL.out w1⟩
    intro x hx
    obtain ⟨e, st', h', n', r2, w2⟩ := key fu _ _ _ x hx
    exact .inr ⟨e, st', h', n', r2, (w2.emb l).loop⟩
  · rename_i p y
    intro x hx
    rcases IH _ _ _ _ _ _ _ _ x hx with ⟨env1, h1, n1, r1, w1⟩ | ⟨e, st, h1, n1, r1, w1⟩
    · exact .inl ⟨env1, h1, n1, r1, (WS.norm w1).scope⟩
    · cases e with
      | ret => exact .inr ⟨.ret, st, h1, n1, r1, (WS.ret w1).scope⟩
      | exit j => exact .inr ⟨.exit j, st, h1, n1, r1, (WS.exit w1).scope⟩
      | goto j => cases r1
  · rename_i p lab l l2 y z
    split
    · exact cs_none
    · rename_i rest hf
      intro x hx
      unfold jp at hx
      have piece : ∀ {c : Code} {env h n} {lo : VT l → H → Id → R} {r : R}, (∀ st h n x, lo st h n = some x → (∃ env' h' n', kn env' h' n' = some x ∧ WS P N p rest (emb N l st) h n .normal env' h' n') ∨ ∃ e st' h' n', kx e st' h' n' = some x ∧ WS P N p rest (emb N l st) h n e.to (emb N (Γ e) st') h' n') →
          CS P N c (upG Γ lab l) env h n (fun env h n => kn (emb N l2 (prj l2 env)) h n) (kxG lab l lo kx) r →
          ∀ x, r = some x → (∃ env' h' n', kn env' h' n' = some x ∧ WS P N p c env h n .normal env' h' n') ∨ ∃ e st' h' n', kx e st' h' n' = some x ∧ WS P N p c env h n e.to (emb N (Γ e) st') h' n' := by
        intro c env h n lo r hlo hcs x hx
        rcases hcs x hx with ⟨env1, h1, n1, r1, w1⟩ | ⟨e, st, h1, n1, r1, w1⟩
        · exact .inl ⟨_, h1, n1, r1, WS.norm (w1.post l2)⟩
        · cases e with
          | ret => exact .inr ⟨.ret, st, h1, n1, r1, WS.ret w1⟩
          | exit j => exact .inr ⟨.exit j, st, h1, n1, r1, WS.exit w1⟩
          | goto j =>
            have key : ∀ (b : Bool) (hb : Nat.beq j lab = b) (st : VT (cond b l (Γ (.goto j)))), (Bool.rec (motive := fun b => VT (cond b l (Γ (.goto j))) → H → Id → R) (fun _ _ _ => none) lo b st h1 n1 : R) = some x →
                WX P N c env h n (.goto j) (emb N (cond b l (Γ (.goto j))) st) h1 n1 → (∃ env' h' n', kn env' h' n' = some x ∧ WS P N p c env h n .normal env' h' n') ∨ ∃ e st' h' n', kx e st' h' n' = some x ∧ WS P N p c env h n e.to (emb N (Γ e) st') h' n' := by
              intro b hb st q1 q2
              cases b with
              | true =>
                have hj : j = lab := Nat.eq_of_beq_eq_true hb
                subst hj
                rcases hlo _ _ _ _ q1 with ⟨env', h', n', r2, w2⟩ | ⟨e, st', h', n', r2, w2⟩
                · exact .inl ⟨env', h', n', r2, WS.jump hf q2 w2⟩
                · exact .inr ⟨e, st', h', n', r2, WS.jump hf q2 w2⟩
              | false => cases q1
            exact key _ rfl st r1 w1
      have key : ∀ fu st h n x, (Nat.rec (motive := fun _ => VT l → H → Id → R) (fun _ _ _ => none) (fun _ lo st h n => ih rest z (upG Γ lab l) (emb N l st) h n (fun env h n => kn (emb N l2 (prj l2 env)) h n)
          (kxG lab l lo kx)) fu : VT l → H → Id → R) st h n = some x →
          (∃ env' h' n', kn env' h' n' = some x ∧ WS P N p rest (emb N l st) h n .normal env' h' n') ∨ ∃ e st' h' n', kx e st' h' n' = some x ∧ WS P N p rest (emb N l st) h n e.to (emb N (Γ e) st') h' n' := by
        intro fu
        induction fu with
        | zero => intro st h n x hx; cases hx
        | succ fu ihf => intro st h n x hx; exact piece ihf (IH _ _ _ _ _ _ _ _) x hx
      rcases piece (key fu) (IH _ _ _ _ _ _ _ _) x hx with ⟨env', h', n', r2, w2⟩ | ⟨e, st', h', n', r2, w2⟩
      · exact .inl ⟨env', h', n', r2, w2.scope⟩
      · exact .inr ⟨e, st', h', n', r2, w2.scope⟩
  · exact cs_none
include O hdr in
theorem evC_ok : ∀ d (c : Code) (an : An) (Γ : Gam) (env : Env) (h : H) (n : Id) (kn : KC) (kx : KX Γ), CS P N c Γ env h n kn kx (evC T M cf dr N fu d c an Γ env h n kn kx)
  | 0, c, an, Γ, env, h, n, kn, kx => cs_none
  | d + 1, c, an, Γ, env, h, n, kn, kx => stepC_ok O hdr (evC_ok d) c an Γ env h n kn kx
end
end Go.Proofs.Nw.X
end
section
/- X14: functions, all at once. -/
open Go Go.RowKit
set_option linter.unusedVariables false
set_option linter.unusedSimpArgs false
namespace Go.Proofs.Nw.X
open Go.Proofs.Nw.K
structure FE where
  fn : Func
  code : Code
  ps : List Nat
  rl : List Nat
  an : An
section
variable (T : Tab)
noncomputable def resL (rs : List ResultVar) (env : Env) (h : H) : (List V → R) → R :=
  List.rec (motive := fun _ => (List V → R) → R) (fun kk => kk []) (fun r _ ih kk => match r with
    | .tmp t => ih fun vs => kk (rd env t :: vs)
    | .cell a t => evLoad T t (rd env a) h fun v => ih fun vs => kk (v :: vs)) rs
noncomputable def one1 (vs : List V) : V := match vs with | [v] => v | vs => .tp vs
end
section
variable {P : Program} {T : Tab} (hT : TabOk P T)
include hT in
theorem load_run {t : TypeId} {a : V} {h : H} {kk : KP} {r : V} (hr : evLoad T t a h kk = some r) : ∃ v, kk v = some r ∧ ∀ (F : Fx) (ι : Io) (n : Id) (w : World) (u : Value), HR F ι h n w → RV ι a u → ∃ ad x, u = .pointer (some ad) ∧ (loadVar t ad).run P w = .ok x w ∧ RV ι v x := by
  unfold evLoad at hr
  split at hr
  · rename_i m hl
    unfold evLdn at hr
    split at hr
    · rename_i o' off
      split at hr
      · rename_i fz xs hg
        rw [takeL_eq, dropL_eq, lenL_eq, beq_eq] at hr
        by_cases hlen : ((xs.drop off).take m).length = m
        case neg => simp only [hlen, decide_false, cond_false] at hr; cases hr
        simp only [hlen, decide_true, cond_true] at hr
        refine ⟨_, hr, fun F ι n w u hb h1 => ?_⟩
        obtain ⟨pl, e1, h1⟩ := h1
        obtain ⟨vals, e, fr, h2, h3, h4, h5, h6⟩ := hb.obj _ _ _ e1 hg
        have hle : off + m ≤ xs.length ∨ m = 0 := by simp at hlen; omega
        have hvl : ((vals.toList.drop (pl.m + off)).take m).length = m := by simp; omega
        have hr := run_loadVar_agg (P := P) (hT.ld _ _ hl) (w := w) (b := pl.b) (o := pl.m + off) ((vals.toList.drop (pl.m + off)).take m) hvl (fun j v hv => by
          rw [List.getElem?_take] at hv
          split at hv
          · rw [cell_of_row w _ _ vals e fr h2]; simpa using hv
          · cases hv)
        refine ⟨_, .agg ((vals.toList.drop (pl.m + off)).take m).toArray, h1, hr, _, rfl, ?_⟩
        refine RVs_iff.2 ⟨by rw [hvl, hlen], fun i x hx => ?_⟩
        have hi : i < m := by have := (List.getElem?_eq_some_iff.1 hx).1; omega
        rw [List.getElem?_take_of_lt hi, List.getElem?_drop] at hx ⊢
        obtain ⟨u, a1, a2, _⟩ := h5 _ x hx
        exact ⟨u, by rw [Array.getElem?_toList, ← a1, Nat.add_assoc], a2⟩
      · cases hr
    · cases hr
  · rename_i m hl
    unfold evLd1 at hr
    split at hr
    · rename_i o' off
      split at hr
      · rename_i x hg
        have key : ∃ v, kk v = some r ∧ ∀ ι w pl, OOk ι w pl x → ∃ u, w.cell? ⟨pl.b, pl.m + off, none⟩ = some u ∧ RV ι v u := by
          unfold getK at hr
          split at hr
          · rename_i fz xs
            rw [getL_eq] at hr
            split at hr
            · rename_i v hv
              refine ⟨v, hr, fun ι w pl hx => ?_⟩
              obtain ⟨vals, e, fr, h1, h2, h3, h4, h5⟩ := hx
              obtain ⟨u, a, b, c⟩ := h4 off v hv
              exact ⟨u, by rw [cell_of_row w _ _ vals e fr h1]; exact a, b⟩
            · cases hr
          · rename_i fz l a
            rw [blt_eq] at hr
            by_cases c : off < l
            · simp only [c, decide_true, cond_true, fN_eq] at hr
              refine ⟨_, hr, fun ι w pl hx => ?_⟩
              obtain ⟨vals, e, fr, bs, h1, h2, h3, h4, h5, h6, h7⟩ := hx
              have hlt : off < bs.length := by omega
              have hg : bs[off]? = some bs[off] := by simp [hlt]
              have hb := byt_eq bs off _ hg
              rw [h4, h5] at hb
              refine ⟨_, by rw [cell_of_row w _ _ vals e fr h1]; exact h6 off _ hg, ?_⟩
              rw [hb]; rfl
            · simp only [c, decide_false, cond_false] at hr; cases hr
          · cases hr
        obtain ⟨v, hk, hv⟩ := key
        refine ⟨v, hk, fun F ι n w u hb h1 => ?_⟩
        obtain ⟨pl, e1, h1⟩ := h1
        obtain ⟨u', hc, hu⟩ := hv ι w pl (hb.obj _ _ _ e1 hg)
        exact ⟨_, u', h1, run_loadVar_one (hT.ld _ _ hl) hc, hu⟩
      · cases hr
    · cases hr
  · cases hr
include hT in
theorem resL_ok : ∀ {rs : List ResultVar} {env : Env} {h : H} {kk : List V → R} {r : V}, resL T rs env h kk = some r → ∃ vs, kk vs = some r ∧ ∀ (F : Fx) (ι : Io) (n : Id) (w : World) (tm : Nat → Value), HR F ι h n w → (∀ t, RV ι (rd env t) (tm t)) →
    ∃ us, (rs.mapM (resM tm)).run P w = .ok us w ∧ RVs ι vs us
  | [], env, h, kk, r, hr => ⟨[], hr, fun F ι n w tm hb hv => ⟨[], by simp, rfl⟩⟩
  | .tmp t :: rs, env, h, kk, r, hr => by
    have hr' : resL T rs env h (fun vs => kk (rd env t :: vs)) = some r := hr
    obtain ⟨vs, h1, h2⟩ := resL_ok hr'
    refine ⟨_, h1, fun F ι n w tm hb hv => ?_⟩
    obtain ⟨us, h3, h4⟩ := h2 F ι n w tm hb hv
    exact ⟨tm t :: us, by simp [List.mapM_cons, resM, h3], _, _, rfl, hv t, h4⟩
  | .cell a t :: rs, env, h, kk, r, hr => by
    have hr' : evLoad T t (rd env a) h (fun v => resL T rs env h fun vs => kk (v :: vs)) = some r := hr
    obtain ⟨v, h0, hld⟩ := load_run hT hr'
    obtain ⟨vs, h1, h2⟩ := resL_ok h0
    refine ⟨_, h1, fun F ι n w tm hb hv => ?_⟩
    obtain ⟨us, h3, h4⟩ := h2 F ι n w tm hb hv
    obtain ⟨ad, x, e1, e2, e3⟩ := hld F ι n w (tm a) hb (hv a)
    exact ⟨x :: us, by simp only [List.mapM_cons, resM, e1, asAddr, Sem.run_bind, Sem.run_pure, Result.andThen_ok, e2, h3], _, _, rfl, e3, h4⟩
end
section
variable (T : Tab) (M : MTab) (dr : (FuncId → Fn1) → Nat → DR) (fu : Nat)
noncomputable def resK (fn : Func) (k : KV) (env : Env) (h : H) (n : Id) : R := resL T fn.results.toList env h fun vs => k (one1 vs) h n
noncomputable def gamR (l : List Nat) : Gam := fun x => match x with | .ret => l | _ => []
noncomputable def kxR (l : List Nat) (K : VT l → H → Id → R) : KX (gamR l) := fun e => match e with | .ret => K | .exit _ => fun _ _ _ => none | .goto _ => fun _ _ _ => none
noncomputable def evFn (cf : FuncId → Fn1) (e : FE) : Fn1 := fun vs h n k =>
  cnd (Nat.beq (lenL vs) (lenL e.ps)) (evC T M cf (dr cf e.fn.ntmps) e.fn.ntmps fu 300 e.code e.an (gamR e.rl) (embL e.fn.ntmps e.ps vs) h n
    (fun env h n => resK T e.fn k env h n) (kxR e.rl fun st h n => resK T e.fn k (emb e.fn.ntmps e.rl st) h n)) none
end
structure FEOk (P : Program) (f : FuncId) (e : FE) : Prop where
  fn : P.funcs[f]? = some e.fn
  body : e.fn.body = some e.code
  call : callable P f = true
  ps : e.ps = List.range e.ps.length
  le : e.ps.length ≤ e.fn.ntmps
theorem rd_args {N : Nat} {vs : List V} {ps : List Nat} (hps : ps = List.range ps.length) (hl : vs.length = ps.length) (t : Nat) : rd (embL N ps vs) t = .j ∨ ∃ v, vs[t]? = some v ∧ rd (embL N ps vs) t = v := by
  have key : ∀ (k : Nat) (l : List Nat) (vs : List V), l = List.range' k l.length → vs.length = l.length → ∀ t, rd (embL N l vs) t = .j ∨ ∃ v, k ≤ t ∧ vs[t - k]? = some v ∧ rd (embL N l vs) t = v := by
    intro k l
    induction l generalizing k with
    | nil => intro vs _ hv t; exact .inl (rd_rep N t)
    | cons s l ih =>
      intro vs hl hv t
      cases vs with
      | nil => simp at hv
      | cons v vs =>
        simp only [List.length_cons, List.range'_succ, List.cons.injEq] at hl
        obtain ⟨rfl, hl⟩ := hl
        have e : embL N (s :: l) (v :: vs) = setL v s (embL N l vs) := rfl
        rw [e, rd_set]
        split
        · rename_i h; right; exact ⟨v, by omega, by rw [h.1]; simp, rfl⟩
        · rcases ih (s + 1) vs hl (by simpa using hv) t with h | ⟨v', h1, h2, h3⟩
          · exact .inl h
          · exact .inr ⟨v', by omega, by rw [show t - s = (t - (s + 1)) + 1 by omega]; simpa using h2, h3⟩
  rcases key 0 ps vs (by rw [← List.range_eq_range']; exact hps) hl t with h | ⟨v, _, h2, h3⟩
  · exact .inl h
  · exact .inr ⟨v, by simpa using h2, h3⟩
section
variable {P : Program} {T : Tab} (hT : TabOk P T) (h8 : u8T P T) {M : MTab} (hM : MTabOk P M) (hF : FlOk P M) {dr : (FuncId → Fn1) → Nat → DR} (hdr : ∀ cf, (∀ f, Sd P f (cf f)) → ∀ N, DrOk P N (dr cf N)) {fu : Nat}
include hT h8 hM hF hdr in
theorem evFn_ok {cf : FuncId → Fn1} (hcf : ∀ f, Sd P f (cf f)) {f : FuncId} {e : FE} (he : FEOk P f e) : Sd P f (evFn T M dr fu cf e) := by
  intro vs h n k r hr
  unfold evFn at hr
  rw [cnd_eq, beq_eq, lenL_eq, lenL_eq] at hr
  by_cases hl : vs.length = e.ps.length
  case neg => simp only [hl, decide_false, cond_false] at hr; cases hr
  simp only [hl, decide_true, cond_true] at hr
  have O : Ok P T M cf := ⟨hT, h8, hM, hF, hcf⟩
  have cs := evC_ok (fu := fu) O (hdr cf hcf e.fn.ntmps) 300 e.code e.an _ _ h n _ _ r hr
  have fin : ∀ {ex : Exit} {env' : Env} {h' : H} {n' : Id}, (ex = .normal ∨ ex = .ret) → resK T e.fn k env' h' n' = some r → WX P e.fn.ntmps e.code (embL e.fn.ntmps e.ps vs) h n ex env' h' n' →
      ∃ v h' n', k v h' n' = some r ∧ ∀ F ι w (us : List Value), HR F ι h n w → RVs ι vs us → XOut P F ι v h' n' ((callFunc f us.toArray).run P w) := by
    intro ex env' h' n' hex hres hwx
    obtain ⟨rs, h1, h2⟩ := resL_ok hT hres
    refine ⟨_, h', n', h1, fun F ι w us hb hus => ?_⟩
    rw [callFunc_run he.call us.toArray w]
    have hul := hus.length
    refine calls_of_wp he.fn he.body (Go.wp_mono (hwx F ι _ w ⟨?_, rfl, by rw [embL_len]; exact Nat.le_refl _, ι, Ext.refl _, hb, fun t => ?_⟩) fun e2 a w' q => ?_)
    · have := he.le; simp; omega
    · rcases rd_args (N := e.fn.ntmps) he.ps hl t with h0 | ⟨v, g1, g2⟩
      · rw [h0]; trivial
      · rw [g2]
        obtain ⟨u, g3, g4⟩ := hus.get g1
        have hlt : t < us.length := (List.getElem?_eq_some_iff.1 g3).1
        have : (us.toArray ++ Array.replicate (e.fn.ntmps - us.toArray.size) undef).getD t undef = u := by
          rw [Array.getD_eq_getD_getElem?, Array.getElem?_append_left (by simpa using hlt)]
          simp [g3]
        rw [this]; exact g4
    · obtain ⟨rfl, hx1, hx2, hx3, ι', he', hb', hv'⟩ := q
      obtain ⟨us', h3, h4⟩ := h2 F ι' n' w' (fun t => a.tmps.getD t undef) hb' hv'
      have hrun' : (e.fn.results.mapM (resM fun t => a.tmps.getD t undef)).run P w' = .ok us'.toArray w' := by
        rw [Array.mapM_eq_mapM_toList, Sem.run_map, h3]; rfl
      have hval : (results e.fn a.tmps).run P w' = .ok (if h : us'.toArray.size = 1 then us'.toArray[0] else .tuple us'.toArray) w' := by
        rw [results_eq]
        simp only [Sem.run_bind, hrun', Result.andThen_ok, Sem.run_pure]
      have hrv : RV ι' (one1 rs) (if h : us'.toArray.size = 1 then us'.toArray[0] else .tuple us'.toArray) := by
        have hl2 := h4.length
        unfold one1
        split
        · rename_i v
          obtain ⟨u, rr, rfl, h5, h6⟩ := h4
          have h6 : rr = [] := h6
          subst h6
          simp; exact h5
        · rename_i hne
          have : us'.toArray.size ≠ 1 := by
            intro hh
            have : rs.length = 1 := by simp at hh; omega
            obtain ⟨v, rfl⟩ := List.length_eq_one_iff.1 this
            exact hne v rfl
          rw [dif_neg this]
          exact ⟨us', rfl, h4⟩
      rcases hex with rfl | rfl <;> exact ⟨hx2, _, hval, _, rfl, ι', he', hb', hrv⟩
  rcases cs with ⟨env', h', n', h1, h2⟩ | ⟨ex, st, h', n', h1, h2⟩
  · exact fin (.inl rfl) h1 h2
  · cases ex with
    | ret => exact fin (.inr rfl) h1 h2
    | exit i => cases h1
    | goto l => cases h1
end
end Go.Proofs.Nw.X
end
section
/- X15: equal values; ids kept back; new things that come late; what reads. -/
open Go Go.RowKit
set_option linter.unusedVariables false
set_option linter.unusedSimpArgs false
set_option linter.constructorNameAsVariable false
namespace Go.Proofs.Nw.X
open Go.Proofs.Nw.K
noncomputable def eqV (d : Nat) : V → V → Bool := Nat.rec (motive := fun _ => V → V → Bool) (fun _ _ => false) (fun _ ih x y =>
  match x, y with
  | .i k n, .i k' n' => cond (Nat.beq (ikN k) (ikN k')) (ieq n n') false
  | .b x, .b y => cond x y (notB y)
  | .s l x, .s l' x' => cond (Nat.beq l l') (Nat.beq x x') false
  | .fl, .fl => true
  | .f64 a, .f64 a' => Nat.beq a a'
  | .c64 a b, .c64 a' b' => cond (Nat.beq a a') (Nat.beq b b') false
  | .np, .np => true
  | .p o k, .p o' k' => cond (Nat.beq k k') (eqId o o') false
  | .ns, .ns => true
  | .sl o z k n, .sl o' z' k' n' => cond (Nat.beq k k') (cond (Nat.beq n n') (cond (Nat.beq z z') (eqId o o') false) false) false
  | .nm, .nm => true
  | .mp o, .mp o' => eqId o o'
  | .nf, .nf => true
  | .fn f cs, .fn f' cs' => cond (Nat.beq f f') (eqLs ih cs cs') false
  | .ag cs, .ag cs' => eqLs ih cs cs'
  | .tp cs, .tp cs' => eqLs ih cs cs'
  | _, _ => false) d
theorem ieq_ok {a b : Int} (h : ieq a b = true) : a = b := by
  cases a <;> cases b <;> first | (exact congrArg _ (nbeq h)) | (cases h)
theorem eqV_ok : ∀ {d : Nat} {x y : V}, eqV d x y = true → x = y
  | 0, x, y, h => by cases h
  | d + 1, x, y, h => by
    cases x <;> cases y <;> first | rfl | (exact Bool.noConfusion h) | skip
    · obtain ⟨h1, h2⟩ := cond_and h; rw [ikN_inj h1, ieq_ok h2]
    · rename_i a b; cases a <;> cases b <;> first | rfl | (exact Bool.noConfusion h)
    · obtain ⟨h1, h2⟩ := cond_and h; rw [nbeq h1, nbeq h2]
    · exact congrArg _ (nbeq h)
    · obtain ⟨h1, h2⟩ := cond_and h; rw [nbeq h1, nbeq h2]
    · obtain ⟨h1, h2⟩ := cond_and h; rw [nbeq h1, eqId_ok h2]
    · obtain ⟨h1, h⟩ := cond_and h; obtain ⟨h2, h⟩ := cond_and h; obtain ⟨h3, h4⟩ := cond_and h; rw [nbeq h1, nbeq h2, nbeq h3, eqId_ok h4]
    · exact congrArg _ (eqId_ok h)
    · obtain ⟨h1, h2⟩ := cond_and h; rw [nbeq h1, eqLs_ok (fun _ _ _ => eqV_ok) h2]
    · exact congrArg _ (eqLs_ok (fun _ _ _ => eqV_ok) h)
    · exact congrArg _ (eqLs_ok (fun _ _ _ => eqV_ok) h)
noncomputable def eqO (x y : O) : Bool := match x, y with
  | .cs t f xs, .cs t' f' xs' => cond (Nat.beq t t') (cond (Nat.beq f f') (eqLs (eqV 4) xs xs') false) false
  | .bs t f l x, .bs t' f' l' x' => cond (Nat.beq t t') (cond (Nat.beq f f') (cond (Nat.beq l l') (Nat.beq x x') false) false) false
  | .mp [], .mp [] => true
  | .lm es, .lm es' => eqLs (fun (p q : V × V) => cond (eqV 6 p.1 q.1) (eqV 6 p.2 q.2) false) es es'
  | _, _ => false
theorem eqO_ok {x y : O} (h : eqO x y = true) : x = y := by
  unfold eqO at h
  split at h
  · obtain ⟨h0, h⟩ := cond_and h; obtain ⟨h1, h2⟩ := cond_and h; rw [nbeq h0, nbeq h1, eqLs_ok (fun _ _ _ => eqV_ok) h2]
  · obtain ⟨h0, h⟩ := cond_and h; obtain ⟨h1, h⟩ := cond_and h; obtain ⟨h2, h3⟩ := cond_and h; rw [nbeq h0, nbeq h1, nbeq h2, nbeq h3]
  · rfl
  · exact congrArg _ (eqLs_ok (fun p _ q hq => by obtain ⟨h1, h2⟩ := cond_and hq; exact Prod.ext (eqV_ok h1) (eqV_ok h2)) h)
  · cases h
def Fx.back (F : Fx) (ι : Io) (n : Id) : Fx where
  w := F.w
  pr := F.pr
  lt := F.lt
  gp := F.gp
  gi := F.gi
  rs := fun o => rk o < rk n ∧ (F.rs o ∨ ι o = none)
  lo := rk n
  rl := fun o h => h.1
theorem HR.keep {F : Fx} {ι : Io} {h : H} {n : Id} {w : World} (hb : HR F ι h n w) : HR (F.back ι n) ι h n w where
  below := ⟨hb.below.os, hb.below.tape, hb.below.output, hb.below.size, hb.below.block⟩
  len := hb.len
  dom := hb.dom
  inj := hb.inj
  obj := hb.obj
  rsv := fun o pl e hr => hr.2.elim (hb.rsv o pl e) (fun e2 => by rw [e] at e2; cases e2)
  lo := Nat.le_refl _
theorem HR.unkeep {F : Fx} {ι ι' : Io} {h' : H} {n n' : Id} {w' : World} (hb : HR (F.back ι n) ι' h' n' w') (hlo : F.lo ≤ rk n) : HR F ι' h' n' w' ∧ (∀ o, rk o < rk n → ι o = none → ι' o = none) ∧ rk n ≤ rk n' :=
  ⟨⟨⟨hb.below.os, hb.below.tape, hb.below.output, hb.below.size, hb.below.block⟩, hb.len, hb.dom, hb.inj, hb.obj, fun o pl e hr => hb.rsv o pl e ⟨Nat.lt_of_lt_of_le (F.rl o hr) hlo, .inl hr⟩, Nat.le_trans hlo hb.lo⟩,
   fun o ho e => by cases hx : ι' o with
     | none => rfl
     | some pl => exact absurd ⟨ho, .inr e⟩ (hb.rsv o pl hx), hb.lo⟩
theorem HR.aside {F : Fx} {ι : Io} {h : H} {n n' : Id} {w : World} (hb : HR F ι h n w) (hn : nxt n = some n') (x : O) : HR F ι (hset x n h) n' w := by
  have hr := nxt_rk hn
  have ne : ∀ o pl, ι o = some pl → o ≠ n ∧ o.length = n.length := fun o pl e => by
    refine ⟨fun e2 => ?_, by rw [(hb.dom o pl e).1, hb.len]⟩
    rw [e2, hb.fresh] at e; cases e
  refine ⟨hb.below, by rw [hr.2, hb.len], fun o pl e => ?_, fun o o' p1 p2 l1 l2 e1 e2 hbb => ?_, fun o pl y e hy => ?_, hb.rsv, by have := hb.lo; omega⟩
  · obtain ⟨a, b, c⟩ := hb.dom o pl e; exact ⟨a, by omega, c⟩
  · exact hb.inj o o' p1 p2 (live_set (ne o p1 e1).2 (ne o p1 e1).1 l1) (live_set (ne o' p2 e2).2 (ne o' p2 e2).1 l2) e1 e2 hbb
  · rw [T.get_set_ne _ _ _ _ (ne o pl e).2 (ne o pl e).1] at hy
    exact hb.obj o pl y e hy
theorem HR.late {F : Fx} {ι : Io} {h : H} {n id : Id} {w w' : World} (hb : HR F ι h n w) (hl : id.length = 8) (hr : rk id < rk n) (hi : ι id = none) (hrs : F.lo ≤ rk id) {x : O} (hx : hget id h = some x)
    (hg : w.grownBy w' none) (hd : w.drawn ≤ w'.drawn) (pl : Pl) (hp : pl.b = w.heap.size) (hlt : pl.b < w'.heap.size) (hok : OOk (upI ι id pl) w' pl x) : HR F (upI ι id pl) h n w' ∧ Ext ι (upI ι id pl) := by
  have he : Ext ι (upI ι id pl) := fun o pl' e => by rw [upI_ne]; exact e; intro e'; rw [e', hi] at e; cases e
  refine ⟨⟨hb.below.grown hg (fun _ h => by cases h), hb.len, fun o pl' e => ?_, fun o o' p1 p2 l1 l2 e1 e2 hbb => ?_, fun o pl' y e hy => ?_, fun o pl' e hrs' => ?_, hb.lo⟩, he⟩
  · by_cases eo : o = id
    · subst eo
      rw [upI_same] at e; cases e
      exact ⟨hl, hr, hb.below.fresh (by omega), hlt⟩
    · rw [upI_ne _ _ eo] at e
      obtain ⟨a, b, c, d⟩ := hb.dom o pl' e
      exact ⟨a, b, c, Nat.lt_of_lt_of_le d hg.size⟩
  · by_cases n1 : o = id
    · by_cases n2 : o' = id
      · rw [n1, n2]
      · subst n1
        rw [upI_same] at e1; cases e1
        rw [upI_ne _ _ n2] at e2
        have := (hb.dom o' p2 e2).2.2.2; omega
    · rw [upI_ne _ _ n1] at e1
      by_cases n2 : o' = id
      · subst n2
        rw [upI_same] at e2; cases e2
        have := (hb.dom o p1 e1).2.2.2; omega
      · rw [upI_ne _ _ n2] at e2
        exact hb.inj o o' p1 p2 l1 l2 e1 e2 hbb
  · by_cases eo : o = id
    · subst eo
      rw [upI_same] at e; cases e
      have hy' : hget o h = some y := hy
      have : y = x := by rw [hx] at hy'; exact (Option.some.inj hy').symm
      rw [this]; exact hok
    · rw [upI_ne _ _ eo] at e
      exact hb.other hg he e hy fun hn e2 => (by cases e2)
  · by_cases eo : o = id
    · subst eo; have := F.rl _ hrs'; omega
    · rw [upI_ne _ _ eo] at e; exact hb.rsv o pl' e hrs'
noncomputable def vId : V → Option Id
  | .p o _ => some o
  | .sl o _ _ _ => some o
  | .mp o => some o
  | _ => none
def AlOp (P : Program) (op : Op) (E : Operand → V) (x : O) (mk : Id → V) : Prop := (∀ id, vId (mk id) = some id) ∧
  ∀ (o : Oper), o.op = op → ∀ h n F ι ρ w, HR F ι h n w → (∀ x ∈ op.operands, RV ι (E x) (ρ x)) →
    ∃ u w' pl, (execOp ρ o).run P w = .ok (.value u) w' ∧ w.grownBy w' none ∧ w.drawn ≤ w'.drawn ∧ pl.b = w.heap.size ∧ pl.b < w'.heap.size ∧ (∀ ι', Ext ι ι' → OOk ι' w' pl x) ∧ ∀ ι' id, ι' id = some pl → RV ι' (mk id) u
abbrev KA := O → (Id → V) → R
noncomputable def newA (ty : Nat) (cs : List V) (kk : KA) : R := cond (allL cs) (kk (.cs ty 0 cs) fun n => .p n 0) none
noncomputable def sliA (T : Tab) (t : TypeId) (len : Nat) (vs : List (Nat × V)) (kk : KA) : R :=
  match T.el t with
  | some (e, sz) => match T.zd e with
    | some zs => cond (Nat.beq (lenL zs) sz) (cond (Nat.blt 0 sz) (cond (Nat.ble (len * sz) 16777216) (fillW (fun i => some (i * sz, sz)) vs (repLL (zeroV zs) len) fun z =>
        cond (allL z) (match T.bb t with
            | some _ => (match packV z (some 0) with | some x => fN x fun x => kk (.bs 0 0 len x) fun n => .sl n 1 0 len | none => none)
            | none => kk (.cs 0 0 z) fun n => .sl n sz 0 len) none) none) none) none
    | none => none
  | none => none
noncomputable def newZ (T : Tab) (t : TypeId) (kk : KA) : R := match T.zd t with | some zs => newA (Nat.succ t) (zeroV zs) kk | none => none
noncomputable def newB (x : V) (kk : KA) : R := match x with | .ag cs => newA 0 cs kk | x => newA 0 [x] kk
noncomputable def evAl (T : Tab) (op : Op) (E : Operand → V) (kk : KA) : R :=
  match op with
  | .alloc t => newZ T t kk
  | .box _ x => newB (E x) kk
  | .buildSlice t l ps => sliA T t l (prt E ps.toList) kk
  | .makeMap _ none => kk (.mp []) fun n => .mp n
  | _ => none
section
variable {P : Program} {T : Tab} (hT : TabOk P T) {E : Operand → V}
theorem newA_ok {op : Op} {ty : Nat} {cs : List V} {kk : KA} {r : V} (H : allL cs = true → ∀ (o : Oper), o.op = op → ∀ h n w0 ι ρ w, HR w0 ι h n w → (∀ x ∈ op.operands, RV ι (E x) (ρ x)) →
    ∃ (vals : Array Value) (e : TypeId), (ty ≠ 0 → e + 1 = ty) ∧ (execOp ρ o).run P w = .ok (.value (.pointer (some ⟨w.heap.size, 0, none⟩))) (w.alloc (.cells vals e)) ∧ RVs ι cs vals.toList) (hr : newA ty cs kk = some r) : ∃ x mk, kk x mk = some r ∧ AlOp P op E x mk := by
  unfold newA at hr
  cases ha : allL cs with
  | false => rw [ha] at hr; cases hr
  | true =>
    rw [ha] at hr
    refine ⟨_, _, hr, fun _ => rfl, fun o ho h n F ι ρ w hb hρ => ?_⟩
    obtain ⟨vals, e, hte, h1, h2⟩ := H ha o ho h n F ι ρ w hb hρ
    have hl : cs.length = vals.size := by have := h2.length; simpa using this.symm
    refine ⟨_, _, ⟨w.heap.size, 0, vals.size⟩, h1, World.grownBy_alloc w _ none, Nat.le_refl _, rfl, by simp, fun ι' he => ⟨vals, e, (0, 0), heap_alloc_new w _, rfl, by simp; omega, fun i x hx => ?_, fun off _ _ => (by simp), fun h => ⟨hte h, rfl, hl.symm⟩⟩, fun ι' id hi => ⟨_, hi, rfl⟩⟩
    obtain ⟨u, a1, a2⟩ := h2.get hx
    exact ⟨u, by simpa using a1, a2.mono he, cells_one h2 ha u (List.mem_of_getElem? a1)⟩
include hT in
theorem sliA_ok (t : TypeId) (len : Nat) (parts : Array (Nat × Operand)) {kk : KA} {r : V} (hr : sliA T t len (prt E parts.toList) kk = some r) : ∃ x mk, kk x mk = some r ∧ AlOp P (.buildSlice t len parts) E x mk := by
  unfold sliA at hr
  simp only [fillW_eq] at hr
  split at hr <;> try cases hr
  rename_i e sz hel
  split at hr <;> try cases hr
  rename_i zs hz
  rw [beq_eq, blt_eq, ble_eq, lenL_eq] at hr
  by_cases c1 : zs.length = sz <;> simp only [c1, decide_true, decide_false, cond_true, cond_false] at hr <;> try cases hr
  by_cases c2 : 0 < sz <;> simp only [c2, decide_true, decide_false, cond_true, cond_false] at hr <;> try cases hr
  by_cases c3 : len * sz ≤ 16777216 <;> simp only [c3, decide_true, decide_false, cond_true, cond_false] at hr <;> try cases hr
  obtain ⟨i, zv, hi, hz', hrz⟩ := zeroD_spec (hT.zd _ _ hz)
  obtain ⟨hu, i', hi', hsz⟩ := elT_spec (hT.el _ _ hel)
  rw [hi] at hi'
  cases hi'
  have hzl : (zeroV zs).length = sz := by unfold zeroV; rw [mapL_eq]; simpa using c1
  obtain ⟨z, h1, h2⟩ := fillV_ok hr
  cases ha : allL z with
  | false => rw [ha] at h1; cases h1
  | true =>
    rw [ha] at h1
    simp only [cond_true] at h1
    have hrun : ∀ (o : Oper), o.op = .buildSlice t len parts → ∀ h n w0 ι ρ w, HR w0 ι h n w → (∀ x ∈ (Op.buildSlice t len parts).operands, RV ι (E x) (ρ x)) →
        ∃ cells' : Array Value, (execOp ρ o).run P w = .ok (.value (.slice (some ⟨w.heap.size, 0, none⟩) len len)) (w.alloc (.cells cells' e)) ∧ RVs ι z cells'.toList ∧ cells'.size = len * sz := by
      intro o ho h n w0 ι ρ w hb hρ
      have hzv := repLL_ok (ι := ι) (zeroV_ok hrz) (by omega) len
      rw [hzl] at hzv
      obtain ⟨cells', h3, h4⟩ := h2 ι ρ _ (fun x hx => hρ x (by simpa [Op.operands] using hx)) hzv
      have hpp : (parts.map fun p => (p.1, ρ p.2)).toList = parts.toList.map fun p => (p.1, ρ p.2) := by simp
      have h1' : Instr.fill (fun i => some (i * sz, sz)) ((Array.range (len * sz)).map (fun x => zv.cells[x % zv.cells.size]!)) (parts.map fun p => (p.1, ρ p.2)).toList = some cells' := by rw [hpp]; exact h3
      refine ⟨cells', ?_, h4, ?_⟩
      · have hm : ¬ (len * sz > 2 ^ 24) := by omega
        by_cases h0 : len * sz = 0
        · have e0 : ∀ f : Nat → Value, Array.map f (Array.range 0) = #[] := fun f => Array.eq_empty_of_size_eq_zero (by simp)
          rw [h0, e0] at h1'
          simp [execOp, ho, Instr.buildSlice, run_underlying hu, sizeOf, typeInfo, hi, newRow, hsz, h0, e0]
          simp at h1'
          simp [h1']
        · simp only [execOp, ho, Instr.buildSlice, Sem.run_bind, run_underlying hu, Result.andThen_ok, sizeOf, typeInfo, run_program, hi, Sem.run_pure, hsz, hm, if_false, h0, zeroValue, hz', h1']
          simp [newRow]
      · have hf : ∀ (vp : List (Nat × Value)) (cs cs' : Array Value), Instr.fill (fun i => some (i * sz, sz)) cs vp = some cs' → cs'.size = cs.size := by
          intro vp
          induction vp with
          | nil => intro cs cs' hf; cases hf; rfl
          | cons p vp ih =>
            intro cs cs' hf
            unfold Instr.fill at hf
            simp only at hf
            split at hf
            · cases hf
            · rename_i hc
              simp at hc
              have := ih _ _ hf
              have hstep := fill_step (p.1 * sz) p.2.cells.toList cs (by simp; omega)
              simp only [Array.toArray_toList] at hstep
              rw [this, hstep]; simp; omega
        have := hf _ _ _ h3
        simpa using this
    split at h1
    · rename_i e' hbb
      split at h1 <;> try cases h1
      rename_i x hx
      rw [fN_eq] at h1
      refine ⟨_, _, h1, fun _ => rfl, fun o ho h n F ι ρ w hb hρ => ?_⟩
      obtain ⟨cells', r1, r2, r3⟩ := hrun o ho h n F ι ρ w hb hρ
      have hbt := byteT_spec (hT.bb _ _ hbb)
      obtain ⟨hu2, i2, hi2, _, hs2, _⟩ := hbt
      rw [hu] at hu2
      cases hu2
      rw [hi] at hi2
      cases hi2
      have e1 : sz = 1 := by omega
      subst e1
      obtain ⟨bs, b1, b2, b3⟩ := packV_ok hx r2
      have hzl2 : z.length = len := by have := r2.length; simp at this; omega
      refine ⟨_, _, ⟨w.heap.size, 0, cells'.size⟩, r1, World.grownBy_alloc w _ none, Nat.le_refl _, rfl, by simp, fun ι' he => ⟨cells', _, (0, 0), bs, heap_alloc_new w _, rfl, by simp; omega, by omega, by simp [b2], fun i b hib => ?_, fun off _ _ => (by simp), fun h => absurd rfl h⟩,
        fun ι' id hi => ⟨_, len, hi, Nat.le_refl _, by simp only [maxLen]; omega, ?_⟩⟩
      · rw [Nat.zero_add, ← Array.getElem?_toList, b3]; simp [hib]
      · by_cases h0 : 0 < len
        · exact .inl ⟨h0, by simp; omega, by simp⟩
        · exact .inr ⟨by omega, _, by rw [show len = 0 by omega]⟩
    · rename_i hbb
      refine ⟨_, _, h1, fun _ => rfl, fun o ho h n F ι ρ w hb hρ => ?_⟩
      obtain ⟨cells', r1, r2, r3⟩ := hrun o ho h n F ι ρ w hb hρ
      have hl : z.length = cells'.size := by have := r2.length; simpa using this.symm
      refine ⟨_, _, ⟨w.heap.size, 0, cells'.size⟩, r1, World.grownBy_alloc w _ none, Nat.le_refl _, rfl, by simp, fun ι' he => ⟨cells', e, (0, 0), heap_alloc_new w _, rfl, by simp; omega, fun i x hx => ?_, fun off _ _ => (by simp), fun h => absurd rfl h⟩,
        fun ι' id hi => ⟨_, len, hi, Nat.le_refl _, ?_, ?_⟩⟩
      · obtain ⟨u, a1, a2⟩ := r2.get hx
        exact ⟨u, by simpa using a1, a2.mono he, cells_one r2 ha u (List.mem_of_getElem? a1)⟩
      · have : len ≤ len * sz := Nat.le_mul_of_pos_right _ c2
        simp only [maxLen]; omega
      · by_cases h0 : 0 < len
        · exact .inl ⟨h0, by simp; omega, by simp⟩
        · exact .inr ⟨by omega, _, by rw [show len = 0 by omega]⟩
include hT in
theorem evAl_ok {op : Op} {kk : KA} {r : V} (hr : evAl T op E kk = some r) : ∃ x mk, kk x mk = some r ∧ AlOp P op E x mk := by
  unfold evAl at hr
  split at hr
  · rename_i t
    unfold newZ at hr
    split at hr <;> try cases hr
    rename_i zs hz
    obtain ⟨i, z, hi, hz', hrz⟩ := zeroD_spec (hT.zd _ _ hz)
    exact newA_ok (fun _ o ho h n w0 ι ρ w hb hρ => ⟨z.cells, t, fun _ => rfl, by simp [execOp, ho, Instr.alloc, zeroValue, typeInfo, hi, hz', newVar, newRow], zeroV_ok hrz⟩) hr
  · rename_i t x
    unfold newB at hr
    split at hr
    · rename_i cs hx
      refine newA_ok (fun _ o ho h n w0 ι ρ w hb hρ => ?_) hr
      have h1 := hρ x (by simp [Op.operands])
      rw [hx] at h1
      obtain ⟨us, e, hr⟩ := h1
      exact ⟨us.toArray, t, fun h => absurd rfl h, by simp [execOp, ho, e, Instr.box, newVar, newRow, Value.cells], by simpa using hr⟩
    · rename_i x' hx
      refine newA_ok (fun hal o ho h n w0 ι ρ w hb hρ => ?_) hr
      have ha : one (E x) = true := by
        have : cond (one (E x)) true false = true := hal
        cases hc : one (E x) with
        | true => rfl
        | false => rw [hc] at this; cases this
      have h1 := hρ x (by simp [Op.operands])
      obtain ⟨o1, o2⟩ := one_cell h1 ha
      exact ⟨#[ρ x], t, fun h => absurd rfl h, by simp [execOp, ho, Instr.box, newVar, newRow, o2], ⟨_, _, rfl, h1, rfl⟩⟩
  · exact sliA_ok hT _ _ _ hr
  · refine ⟨_, _, hr, fun _ => rfl, fun o ho h n F ι ρ w hb hρ => ?_⟩
    exact ⟨_, _, ⟨w.heap.size, 0, 0⟩, by simp [execOp, ho, run_makeMap, Result.andThen], World.grownBy_alloc w _ none, Nat.le_refl _, rfl, by simp, fun ι' he => ⟨#[], 0, (MapKept.heap_alloc w _).1, rfl, rfl, fun i k v h => by simp at h⟩, fun ι' id hi => ⟨_, hi, rfl⟩⟩
  · cases hr
end
noncomputable def pairs (E : Operand → V) (l : List Operand) : List (V × V) :=
  List.rec (motive := fun _ => Option V → List (V × V)) (fun _ => []) (fun x _ ih s => match s with | none => ih (some (E x)) | some k => (k, E x) :: ih none) l none
noncomputable def flat2 (l : List (Operand × Operand)) : List Operand := List.rec [] (fun p _ ih => p.1 :: p.2 :: ih) l
theorem pairs_flat (E : Operand → V) : ∀ l : List (Operand × Operand), pairs E (flat2 l) = l.map fun p => (E p.1, E p.2)
  | [] => rfl
  | p :: l => by show (E p.1, E p.2) :: pairs E (flat2 l) = _; rw [pairs_flat E l]; rfl
theorem flat2_mem {x : Operand} : ∀ {l : List (Operand × Operand)}, x ∈ flat2 l ↔ ∃ p ∈ l, x = p.1 ∨ x = p.2
  | [] => ⟨fun h => (by cases h), fun ⟨_, h, _⟩ => by cases h⟩
  | p :: l => by
    show x ∈ p.1 :: p.2 :: flat2 l ↔ _
    simp only [List.mem_cons, flat2_mem (l := l)]
    constructor
    · rintro (h | h | ⟨q, h1, h2⟩)
      · exact ⟨p, .inl rfl, .inl h⟩
      · exact ⟨p, .inl rfl, .inr h⟩
      · exact ⟨q, .inr h1, h2⟩
    · rintro ⟨q, h1 | h1, h2⟩
      · subst h1
        rcases h2 with h2 | h2
        · exact .inl h2
        · exact .inr (.inl h2)
      · exact .inr (.inr ⟨q, h1, h2⟩)
def litArgs : Op → Option (List Operand)
  | .call { callee := .builtin .print, args, .. } => some args.toList
  | _ => none
def AlX (P : Program) (op : Op) (E : Operand → V) (x : O) (mk : Id → V) : Prop :=
  match litArgs op with
  | some l => x = .lm (pairs E l) ∧ mk = V.mp ∧ distB (pairs E l) = true
  | none => AlOp P op E x mk
noncomputable def litA (es : List (V × V)) (kk : KA) : R := cond (distB es) (kk (.lm es) V.mp) none
noncomputable def evAlX (T : Tab) (op : Op) (E : Operand → V) (kk : KA) : R :=
  match op with
  | .call { callee := .builtin .print, args, .. } => litA (pairs E args.toList) kk
  | op => evAl T op E kk
theorem AlX.vid {P : Program} {op : Op} {E : Operand → V} {x : O} {mk : Id → V} (h : AlX P op E x mk) : ∀ id, vId (mk id) = some id := by
  unfold AlX at h
  split at h
  · rw [h.2.1]; exact fun _ => rfl
  · exact h.1
theorem AlX.plain {P : Program} {op : Op} {E : Operand → V} {x : O} {mk : Id → V} (h : AlX P op E x mk) (hn : litArgs op = none) : AlOp P op E x mk := by
  unfold AlX at h
  rw [hn] at h; exact h
theorem evAlX_ok {P : Program} {T : Tab} (hT : TabOk P T) {E : Operand → V} {op : Op} {kk : KA} {r : V} (hr : evAlX T op E kk = some r) : ∃ x mk, kk x mk = some r ∧ AlX P op E x mk := by
  unfold evAlX at hr
  split at hr
  · rename_i args tys
    unfold litA at hr
    cases hc : distB (pairs E args.toList) <;> rw [hc] at hr
    · cases hr
    · exact ⟨_, _, hr, rfl, rfl, hc⟩
  · rename_i hne
    obtain ⟨x, mk, h1, h2⟩ := evAl_ok hT hr
    refine ⟨x, mk, h1, ?_⟩
    unfold AlX
    have : litArgs op = none := by
      unfold litArgs
      split
      · rename_i args tys; exact absurd rfl (hne args tys)
      · rfl
    rw [this]; exact h2
end Go.Proofs.Nw.X
end
