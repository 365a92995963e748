/- Bundle: NwX3, NwX4, NwX5, NwX6, NwX7, NwX8. -/
import Derived.Test.YtbooikopklijdaaGreatDoorNwN1
import Derived.Laws.Cover3
set_option linter.constructorNameAsVariable false
set_option linter.unusedVariables false
set_option linter.unusedSimpArgs false
set_option linter.unusedSectionVars false
section
/- X3: operations on values alone. -/
open Go Go.RowKit
set_option linter.unusedVariables false
set_option linter.unusedSimpArgs false
namespace Go.Proofs.Nw.X
open Go.Proofs.Nw.K
noncomputable def slt (n a m b : Nat) : Bool :=
  cond (Nat.ble n m) (cond (Nat.blt (a * 256 ^ (m - n)) b) true (cond (Nat.beq (a * 256 ^ (m - n)) b) (Nat.blt n m) false)) (Nat.blt a (b * 256 ^ (n - m)))
noncomputable def seq (n a m b : Nat) : Bool := cond (Nat.beq n m) (Nat.beq a b) false
theorem two_lt {a b M r s : Nat} (hr : r < M) (hs : s < M) : (a * M + r < b * M + s) ↔ (a < b ∨ (a = b ∧ r < s)) := by
  constructor
  · intro h
    rcases Nat.lt_trichotomy a b with h1 | h1 | h1
    · exact .inl h1
    · subst h1; exact .inr ⟨rfl, by omega⟩
    · have := Nat.mul_le_mul_right M (show b + 1 ≤ a from h1)
      rw [Nat.add_mul] at this; omega
  · rintro (h | ⟨rfl, h⟩)
    · have := Nat.mul_le_mul_right M (show a + 1 ≤ b from h)
      rw [Nat.add_mul] at this; omega
    · omega
theorem two_eq {a b M r s : Nat} (hr : r < M) (hs : s < M) : (a * M + r = b * M + s) ↔ (a = b ∧ r = s) := by
  constructor
  · intro h
    rcases Nat.lt_trichotomy a b with h1 | h1 | h1
    · have := (two_lt hr hs).2 (.inl h1); omega
    · subst h1; exact ⟨rfl, by omega⟩
    · have := (two_lt hs hr).2 (.inl h1); omega
  · rintro ⟨rfl, rfl⟩; rfl
theorem slt_spec : ∀ (x y : List UInt8), Op.bytesLess x y = slt x.length (valB x) y.length (valB y)
  | x, [] => by
    have e : Op.bytesLess x [] = false := by cases x <;> rfl
    rw [e]
    unfold slt
    cases x with
    | nil => rfl
    | cons a x =>
      have h1 : Nat.ble (a :: x).length ([] : List UInt8).length = false := by rw [ble_eq]; simp
      rw [h1]; simp only [cond_false, valB, Nat.zero_mul]
      rw [blt_eq]; simp
  | [], b :: y => by
    have e : Op.bytesLess [] (b :: y) = true := rfl
    rw [e]
    unfold slt
    have h1 : Nat.ble ([] : List UInt8).length (b :: y).length = true := by rw [ble_eq]; simp
    rw [h1]
    simp only [cond_true, valB, Nat.zero_mul, blt_eq, beq_eq]
    by_cases h0 : 0 < b.toNat * 256 ^ y.length + valB y
    · simp [h0]
    · have : 0 = b.toNat * 256 ^ y.length + valB y := by omega
      simp [← this]
  | a :: x, b :: y => by
    have ih := slt_spec x y
    have hx := valB_lt x
    have hy := valB_lt y
    have ea : (a < b) ↔ a.toNat < b.toNat := UInt8.lt_iff_toNat_lt
    have eb : (a = b) ↔ a.toNat = b.toNat := ⟨fun h => by rw [h], fun h => UInt8.toNat_inj.1 h⟩
    show (decide (a < b) || (a == b && Op.bytesLess x y)) = _
    rw [ih]
    unfold slt
    simp only [List.length_cons, valB, blt_eq, beq_eq, ble_eq, Nat.add_le_add_iff_right, Nat.add_sub_add_right, Nat.add_lt_add_iff_right]
    by_cases hnm : x.length ≤ y.length
    · simp only [hnm, decide_true, cond_true]
      have e : 256 ^ y.length = 256 ^ x.length * 256 ^ (y.length - x.length) := by rw [← Nat.pow_add]; congr 1; omega
      have e2 : (a.toNat * 256 ^ x.length + valB x) * 256 ^ (y.length - x.length) = a.toNat * 256 ^ y.length + valB x * 256 ^ (y.length - x.length) := by
        rw [Nat.add_mul, Nat.mul_assoc, ← e]
      have hx2 : valB x * 256 ^ (y.length - x.length) < 256 ^ y.length := by
        rw [e]; exact Nat.mul_lt_mul_of_pos_right hx (Nat.pow_pos (by omega))
      rw [e2]
      simp only [two_lt hx2 hy, two_eq hx2 hy]
      by_cases h1 : a.toNat < b.toNat
      · have : a < b := ea.2 h1
        simp [this, h1]
      · have n1 : ¬ a < b := fun h => h1 (ea.1 h)
        by_cases h2 : a.toNat = b.toNat
        · have : a = b := eb.2 h2
          subst this
          simp
        · have n2 : ¬ a = b := fun h => h2 (eb.1 h)
          simp [n1, n2, h1, h2]
    · simp only [hnm, decide_false, cond_false]
      have e : 256 ^ x.length = 256 ^ y.length * 256 ^ (x.length - y.length) := by rw [← Nat.pow_add]; congr 1; omega
      have e2 : (b.toNat * 256 ^ y.length + valB y) * 256 ^ (x.length - y.length) = b.toNat * 256 ^ x.length + valB y * 256 ^ (x.length - y.length) := by
        rw [Nat.add_mul, Nat.mul_assoc, ← e]
      have hy2 : valB y * 256 ^ (x.length - y.length) < 256 ^ x.length := by
        rw [e]; exact Nat.mul_lt_mul_of_pos_right hy (Nat.pow_pos (by omega))
      rw [e2]
      simp only [two_lt hx hy2]
      by_cases h1 : a.toNat < b.toNat
      · have : a < b := ea.2 h1
        simp [this, h1]
      · have n1 : ¬ a < b := fun h => h1 (ea.1 h)
        by_cases h2 : a.toNat = b.toNat
        · have : a = b := eb.2 h2
          subst this
          simp
        · have n2 : ¬ a = b := fun h => h2 (eb.1 h)
          simp [n1, n2, h1, h2]
theorem seq_spec (x y : List UInt8) : (x == y) = seq x.length (valB x) y.length (valB y) := by
  unfold seq
  rw [beq_eq, beq_eq]
  by_cases hl : x.length = y.length
  · simp only [hl, decide_true, cond_true]
    by_cases h : x = y
    · subst h; simp
    · have : ¬ valB x = valB y := fun e => h (valB_inj hl e)
      simp [h, this]
  · have : ¬ x = y := fun e => hl (by rw [e])
    simp [hl, this]
def XOut (P : Program) (w0 : Fx) (ι : Io) (v : V) (h' : H) (n' : Id) : Result Next → Prop
  | .ok (.value u) w' => ∃ ι', Ext ι ι' ∧ HR w0 ι' h' n' w' ∧ RV ι' v u
  | .ok .skip w' => v = .j ∧ ∃ ι', Ext ι ι' ∧ HR w0 ι' h' n' w'
  | .ok (.enter f args) w' => Calls P f args w' fun e w'' => ∃ u, e = .returned u ∧ ∃ ι', Ext ι ι' ∧ HR w0 ι' h' n' w'' ∧ RV ι' v u
  | _ => False
def XOp (P : Program) (op : Op) (E : Operand → V) (h : H) (n : Id) (v : V) (h' : H) (n' : Id) : Prop :=
  ∀ (o : Oper), o.op = op → ∀ w0 ι ρ w, HR w0 ι h n w → (∀ x ∈ op.operands, RV ι (E x) (ρ x)) → XOut P w0 ι v h' n' ((execOp ρ o).run P w)
theorem xop_pure {P : Program} {op : Op} {E : Operand → V} {h : H} {n : Id} {v : V} (H : ∀ (o : Oper), o.op = op → ∀ w0 ι ρ w, HR w0 ι h n w → (∀ x ∈ op.operands, RV ι (E x) (ρ x)) →
    ∃ u, (execOp ρ o).run P w = .ok (.value u) w ∧ RV ι v u) : XOp P op E h n v h n := by
  intro o ho w0 ι ρ w hb hr
  obtain ⟨u, h1, h2⟩ := H o ho w0 ι ρ w hb hr
  rw [h1]
  exact ⟨ι, Ext.refl _, hb, h2⟩
abbrev KP := V → R
def Pure (P : Program) (op : Op) (E : Operand → V) (kk : KP) (r : R) : Prop := ∀ x, r = some x → ∃ v, kk v = some x ∧ ∀ h n, XOp P op E h n v h n
noncomputable def ikN (k : IntKind) : Nat := IntKind.casesOn k 0 1 2 3 4 5 6 7
theorem ikN_inj {k k' : IntKind} (h : Nat.beq (ikN k) (ikN k') = true) : k = k' := by
  have := Nat.eq_of_beq_eq_true h
  cases k <;> cases k' <;> first | rfl | (exact absurd this (by decide))
noncomputable def evBinI (op : BinOp) (k : IntKind) (a b : Int) (kk : KP) : R :=
  match op with
  | .add => fI (wrapK k (Int.add a b)) fun r => kk (.i k r)
  | .sub => fI (wrapK k (Int.sub a b)) fun r => kk (.i k r)
  | .mul => fI (wrapK k (Int.mul a b)) fun r => kk (.i k r)
  | .quo => cond (ieq b 0) none (fI (wrapK k (Int.tdiv a b)) fun r => kk (.i k r))
  | .rem => cond (ieq b 0) none (fI (Int.tmod a b) fun r => kk (.i k r))
  | .eql => fB (ieq a b) fun r => kk (.b r)
  | .neq => fB (ieq a b) fun r => kk (.b (cond r false true))
  | .lss => fB (ilt a b) fun r => kk (.b r)
  | .leq => fB (ilt b a) fun r => kk (.b (cond r false true))
  | .gtr => fB (ilt b a) fun r => kk (.b r)
  | .geq => fB (ilt a b) fun r => kk (.b (cond r false true))
  | _ => none
noncomputable def evBinS (op : BinOp) (n a m b : Nat) (kk : KP) : R :=
  match op with
  | .add => cond (Nat.ble (n + m) 9223372036854775807) (fN (n + m) fun l => fN (a * 256 ^ m + b) fun r => kk (.s l r)) none
  | .eql => fB (seq n a m b) fun r => kk (.b r)
  | .neq => fB (seq n a m b) fun r => kk (.b (cond r false true))
  | .lss => fB (slt n a m b) fun r => kk (.b r)
  | .leq => fB (slt m b n a) fun r => kk (.b (cond r false true))
  | .gtr => fB (slt m b n a) fun r => kk (.b r)
  | .geq => fB (slt n a m b) fun r => kk (.b (cond r false true))
  | _ => none
theorem bytesLess_total (x y : List UInt8) : (Op.bytesLess x y || x == y) = !Op.bytesLess y x := by
  induction x generalizing y with
  | nil => cases y <;> rfl
  | cons a x ih =>
    cases y with
    | nil => simp [Op.bytesLess]
    | cons b y =>
      have := ih y
      simp only [Op.bytesLess]
      rcases Nat.lt_trichotomy a.toNat b.toNat with h | h | h
      · have h1 : a < b := UInt8.lt_iff_toNat_lt.2 h
        have h2 : ¬ b < a := fun h' => by have := UInt8.lt_iff_toNat_lt.1 h'; omega
        have h3 : ¬ b = a := fun e => by rw [e] at h; omega
        simp [h1, h2, h3]
      · have h1 := UInt8.toNat_inj.1 h
        subst h1
        have h2 : ¬ a < a := fun h' => by have := UInt8.lt_iff_toNat_lt.1 h'; omega
        simp [h2]
        by_cases e : x = y
        · subst e; simpa using this
        · simpa [e] using this
      · have h1 : b < a := UInt8.lt_iff_toNat_lt.2 h
        have h2 : ¬ a < b := fun h' => by have := UInt8.lt_iff_toNat_lt.1 h'; omega
        have h3 : ¬ a = b := fun e => by rw [e] at h; omega
        simp [h1, h2, h3]
section
variable {P : Program} {E : Operand → V} {kk : KP}
theorem pure_one {op : Op} {v : V} (H : ∀ h n (o : Oper), o.op = op → ∀ w0 ι ρ w, HR w0 ι h n w → (∀ x ∈ op.operands, RV ι (E x) (ρ x)) →
    ∃ u, (execOp ρ o).run P w = .ok (.value u) w ∧ RV ι v u) : Pure P op E kk (kk v) :=
  fun r hr => ⟨v, hr, fun h n => xop_pure (H h n)⟩
theorem pure_none {op : Op} : Pure P op E kk none := fun r hr => by cases hr
theorem binI_ok (op : BinOp) (t ty : TypeId) (x y : Operand) {k : IntKind} {a b : Int} (hx : E x = .i k a) (hy : E y = .i k b) : Pure P (.binOp op t x y ty) E kk (evBinI op k a b kk) := by
  have key : ∀ (v : V), (∀ ι w, ∃ u, (binOp op t (.int k a) (.int k b)).run P w = .ok u w ∧ RV ι v u) → Pure P (.binOp op t x y ty) E kk (kk v) := fun v H => pure_one fun h n o ho w0 ι ρ w hb hρ => by
    have h1 := hρ x (by simp [Op.operands])
    have h2 := hρ y (by simp [Op.operands])
    rw [hx] at h1
    rw [hy] at h2
    have h1 : ρ x = _ := h1
    have h2 : ρ y = _ := h2
    obtain ⟨u, h3, h4⟩ := H ι w
    exact ⟨u, by simp [execOp, ho, h1, h2, eqGuard_at_int, h3], h4⟩
  cases op with
  | add => simp only [evBinI, fI_eq, wrapK_eq]; exact key _ fun ι w => ⟨_, by simp [binOp_add, Op.intArith], rfl⟩
  | sub => simp only [evBinI, fI_eq, wrapK_eq]; exact key _ fun ι w => ⟨_, by simp [binOp_sub, Op.intArith]; rfl, rfl⟩
  | mul => simp only [evBinI, fI_eq, wrapK_eq]; exact key _ fun ι w => ⟨_, by simp [binOp_mul, Op.intArith], rfl⟩
  | quo =>
    simp only [evBinI, fI_eq, wrapK_eq, ieq_eq]
    by_cases h0 : b = 0
    · simp only [h0, decide_true, cond_true]; exact pure_none
    · simp only [h0, decide_false, cond_false]; exact key _ fun ι w => ⟨_, by simp [binOp_quo, Op.intDiv, h0], rfl⟩
  | rem =>
    simp only [evBinI, fI_eq, wrapK_eq, ieq_eq]
    by_cases h0 : b = 0
    · simp only [h0, decide_true, cond_true]; exact pure_none
    · simp only [h0, decide_false, cond_false]; exact key _ fun ι w => ⟨_, by simp [binOp_rem, Op.intDiv, h0], rfl⟩
  | eql => simp only [evBinI, fB_eq, ieq_eq]; exact key _ fun ι w => ⟨.bool (a == b), by simp [binOp_eql], by show _ = _; congr 1⟩
  | neq => simp only [evBinI, fB_eq, ieq_eq]; exact key _ fun ι w => ⟨.bool (a != b), by simp [binOp_neq], by show _ = _; by_cases e : a = b <;> simp [e, bne]⟩
  | lss => simp only [evBinI, fB_eq, ilt_eq]; exact key _ fun ι w => ⟨.bool (decide (a < b)), by simp [binOp_lss], rfl⟩
  | leq => simp only [evBinI, fB_eq, ilt_eq]; exact key _ fun ι w => ⟨.bool (decide (a ≤ b)), by simp [binOp_leq], by show _ = _; congr 1; by_cases e : b < a <;> simp [e] <;> omega⟩
  | gtr => simp only [evBinI, fB_eq, ilt_eq]; exact key _ fun ι w => ⟨.bool (decide (a > b)), by simp [binOp_gtr], rfl⟩
  | geq => simp only [evBinI, fB_eq, ilt_eq]; exact key _ fun ι w => ⟨.bool (decide (a ≥ b)), by simp [binOp_geq], by show _ = _; congr 1; by_cases e : a < b <;> simp [e] <;> omega⟩
  | _ => exact pure_none
theorem srep_app {l a m b : Nat} {s t : ByteArray} (h : SRep l a s) (k : SRep m b t) : SRep (l + m) (a * 256 ^ m + b) (s ++ t) := by
  refine ⟨by simp [← h.1, ← k.1], ?_⟩
  rw [← h.2, ← k.2, ← k.1]
  simp [valB_app]
theorem binS_ok (op : BinOp) (t ty : TypeId) (x y : Operand) {n a m b : Nat} (hx : E x = .s n a) (hy : E y = .s m b) : Pure P (.binOp op t x y ty) E kk (evBinS op n a m b kk) := by
  have key : ∀ (v : V), (∀ ι w (s u : ByteArray), SRep n a s → SRep m b u → ∃ r, (Op.stringOp op s u).run P w = .ok r w ∧ RV ι v r) → Pure P (.binOp op t x y ty) E kk (kk v) := fun v H => pure_one fun h n o ho w0 ι ρ w hb hρ => by
    have h1 := hρ x (by simp [Op.operands])
    have h2 := hρ y (by simp [Op.operands])
    rw [hx] at h1
    rw [hy] at h2
    obtain ⟨s, e1, r1⟩ := h1
    obtain ⟨u, e2, r2⟩ := h2
    obtain ⟨r, h3, h4⟩ := H ι w s u r1 r2
    refine ⟨r, ?_, h4⟩
    have hb : binOp op t (.string s) (.string u) = Op.stringOp op s u := by cases op <;> rfl
    simp [execOp, ho, e1, e2, eqGuard_at_string, hb, h3]
  have c1 : ∀ {s u : ByteArray}, SRep n a s → SRep m b u → (s.toList == u.toList) = seq n a m b := fun {s u} h k => by
    rw [ByteArray.toList_eq, ByteArray.toList_eq, seq_spec, h.1, h.2, k.1, k.2]
  have c2 : ∀ {s u : ByteArray}, SRep n a s → SRep m b u → Op.bytesLess s.toList u.toList = slt n a m b := fun {s u} h k => by
    rw [ByteArray.toList_eq, ByteArray.toList_eq, slt_spec, h.1, h.2, k.1, k.2]
  have c3 : ∀ {s u : ByteArray}, SRep n a s → SRep m b u → Op.bytesLess u.toList s.toList = slt m b n a := fun {s u} h k => by
    rw [ByteArray.toList_eq, ByteArray.toList_eq, slt_spec, h.1, h.2, k.1, k.2]
  have c4 : ∀ {s u : ByteArray}, SRep n a s → SRep m b u → (Op.bytesLess s.toList u.toList || s.toList == u.toList) = !slt m b n a := fun {s u} h k => by
    rw [bytesLess_total, c3 h k]
  have nt : ∀ c : Bool, cond c false true = !c := fun c => by cases c <;> rfl
  cases op with
  | add =>
    simp only [evBinS, ble_eq, fN_eq]
    by_cases hl : n + m ≤ 9223372036854775807
    · simp only [hl, decide_true, cond_true]
      refine key _ fun ι w s u h k => ⟨.string (s ++ u), ?_, _, rfl, srep_app h k⟩
      have h1 := h.size
      have h2 := k.size
      have : ¬ (9223372036854775807 < (s.size : Int) + u.size) := by omega
      simp [Op.stringOp, this]
    · simp only [hl, decide_false, cond_false]; exact pure_none
  | eql => simp only [evBinS, fB_eq]; exact key _ fun ι w s u h k => ⟨_, by simp only [Op.stringOp, c1 h k]; rfl, rfl⟩
  | neq => simp only [evBinS, fB_eq, nt]; exact key _ fun ι w s u h k => ⟨_, by simp only [Op.stringOp, c1 h k]; rfl, rfl⟩
  | lss => simp only [evBinS, fB_eq]; exact key _ fun ι w s u h k => ⟨_, by simp only [Op.stringOp, c2 h k]; rfl, rfl⟩
  | leq => simp only [evBinS, fB_eq, nt]; exact key _ fun ι w s u h k => ⟨_, by simp only [Op.stringOp, c4 h k]; rfl, rfl⟩
  | gtr => simp only [evBinS, fB_eq]; exact key _ fun ι w s u h k => ⟨_, by simp only [Op.stringOp, c4 h k, Bool.not_not]; rfl, rfl⟩
  | geq => simp only [evBinS, fB_eq, nt]; exact key _ fun ι w s u h k => ⟨_, by simp only [Op.stringOp, c2 h k]; rfl, rfl⟩
  | _ => exact pure_none
end
end Go.Proofs.Nw.X
end
section
/- X4: operations on values alone: truth values, nil, structs of texts, numbers turned, slices of texts; the tables. -/
open Go Go.RowKit
set_option linter.unusedVariables false
set_option linter.unusedSimpArgs false
namespace Go.Proofs.Nw.X
open Go.Proofs.Nw.K
noncomputable def notB (b : Bool) : Bool := cond b false true
theorem notB_eq (b : Bool) : notB b = !b := by cases b <;> rfl
noncomputable def eqN (op : BinOp) (b : Bool) (kk : KP) : R :=
  match op with
  | .eql => kk (.b b)
  | .neq => kk (.b (notB b))
  | _ => none
noncomputable def eqAg (cs : List V) : List V → Option Bool :=
  List.rec (motive := fun _ => List V → Option Bool) (fun ds => List.casesOn ds (some true) fun _ _ => none)
    (fun c _ ih ds => List.casesOn ds none fun d ds =>
      match c, d with
      | .s n a, .s m b => match ih ds with | some r => some (cond (seq n a m b) r false) | none => none
      | _, _ => none) cs
theorem eqAg_cons (c : V) (cs : List V) (d : V) (ds : List V) : eqAg (c :: cs) (d :: ds) = (match c, d with
      | .s n a, .s m b => match eqAg cs ds with | some r => some (cond (seq n a m b) r false) | none => none
      | _, _ => none) := rfl
theorem eqAg_spec {ι : Io} : ∀ {cs ds : List V} {us vs : List Value} {r : Bool}, eqAg cs ds = some r → RVs ι cs us → RVs ι ds vs →
    ∃ a b : List ByteArray, us = a.map Value.string ∧ vs = b.map Value.string ∧ eqStrs a b = r ∧ a.length = cs.length ∧ b.length = cs.length
  | [], [], us, vs, r, h, h1, h2 => by
    cases h
    have h1 : us = [] := h1
    have h2 : vs = [] := h2
    subst h1 h2
    exact ⟨[], [], rfl, rfl, rfl, rfl, rfl⟩
  | [], _ :: _, us, vs, r, h, h1, h2 => by cases h
  | _ :: _, [], us, vs, r, h, h1, h2 => by cases h
  | c :: cs, d :: ds, us, vs, r, h, h1, h2 => by
    rw [eqAg_cons] at h
    split at h
    · rename_i n a m b
      split at h
      · rename_i r' hr
        cases h
        obtain ⟨u, us, rfl, ⟨s, rfl, hs⟩, h1⟩ := h1
        obtain ⟨v, vs, rfl, ⟨t, rfl, ht⟩, h2⟩ := h2
        obtain ⟨a', b', rfl, rfl, e, l1, l2⟩ := eqAg_spec hr h1 h2
        refine ⟨s :: a', t :: b', rfl, rfl, ?_, by simp [l1], by simp [l2]⟩
        simp only [eqStrs, e]
        rw [ByteArray.toList_eq, ByteArray.toList_eq, seq_spec, hs.1, hs.2, ht.1, ht.2]
        cases seq n a m b <;> rfl
      · cases h
    · cases h
noncomputable def evBin (T : Tab) (op : BinOp) (t : TypeId) (x y : V) (kk : KP) : R :=
  match x, y with
  | .i k a, .i k' b => cond (Nat.beq (ikN k) (ikN k')) (evBinI op k a b kk) none
  | .s n a, .s m b => evBinS op n a m b kk
  | .b a, .b b => match T.kd t with
    | .bool => fB (cond a b (notB b)) fun r => eqN op r kk
    | _ => none
  | .np, .np => match T.pt t with | true => eqN op true kk | false => none
  | .p _ _, .np => match T.pt t with | true => eqN op false kk | false => none
  | .ns, .ns => match T.kd t with | .slice _ => eqN op true kk | _ => none
  | .sl _ _ _ _, .ns => match T.kd t with | .slice _ => eqN op false kk | _ => none
  | .ag cs, .ag ds => match T.ss t with
    | some n => match Nat.beq (lenL cs) n, eqAg cs ds with
      | true, some r => eqN op r kk
      | _, _ => none
    | none => none
  | _, _ => none
section
variable {P : Program} {T : Tab} (hT : TabOk P T) {E : Operand → V} {kk : KP}
theorem eqN_ok (op : BinOp) (t ty : TypeId) (x y : Operand) (b : Bool) (H1 : ∀ (ι : Io) (ρ : Operand → Value) (w : World), RV ι (E x) (ρ x) → RV ι (E y) (ρ y) →
      (∀ op, (eqGuard op t x y (ρ x) (ρ y)).run P w = .ok () w) ∧ (binOp .eql t (ρ x) (ρ y)).run P w = .ok (.bool b) w ∧ (binOp .neq t (ρ x) (ρ y)).run P w = .ok (.bool !b) w) :
    Pure P (.binOp op t x y ty) E kk (eqN op b kk) := by
  unfold eqN
  cases op with
  | eql =>
    refine pure_one fun h n o ho w0 ι ρ w hb hρ => ⟨.bool b, ?_, rfl⟩
    have := H1 ι ρ w (hρ x (by simp [Op.operands])) (hρ y (by simp [Op.operands]))
    simp only [execOp, ho, Sem.run_bind, this.1, this.2.1, Result.andThen_ok, Sem.run_pure]
  | neq =>
    refine pure_one fun h n o ho w0 ι ρ w hb hρ => ⟨.bool !b, ?_, by rw [notB_eq]; rfl⟩
    have := H1 ι ρ w (hρ x (by simp [Op.operands])) (hρ y (by simp [Op.operands]))
    simp only [execOp, ho, Sem.run_bind, this.1, this.2.2, Result.andThen_ok, Sem.run_pure]
  | _ => exact pure_none
include hT in
theorem evBin_ok (op : BinOp) (t ty : TypeId) (x y : Operand) : Pure P (.binOp op t x y ty) E kk (evBin T op t (E x) (E y) kk) := by
  unfold evBin
  split
  · rename_i k a k' b hx hy
    cases hc : Nat.beq (ikN k) (ikN k') with
    | false => exact pure_none
    | true => have := ikN_inj hc; subst this; exact binI_ok op t ty x y hx hy
  · rename_i n a m b hx hy; exact binS_ok op t ty x y hx hy
  · rename_i a b hx hy
    split
    · rename_i hk
      have hu := hT.kbool _ hk
      rw [fB_eq]
      have e : cond a b (notB b) = (a == b) := by cases a <;> cases b <;> rfl
      rw [e]
      refine eqN_ok op t ty x y _ fun ι ρ w h1 h2 => ?_
      rw [hx] at h1
      rw [hy] at h2
      have h1 : ρ x = _ := h1
      have h2 : ρ y = _ := h2
      rw [h1, h2]
      refine ⟨fun op => ?_, ?_, ?_⟩
      · rw [eqGuard_at_bool]; rfl
      · simp only [Sem.run_bind, Sem.run_pure, Result.andThen_ok, run_eql_bool w t a b hu]
      · simp only [Sem.run_bind, Sem.run_pure, Result.andThen_ok, run_neq_bool w t a b hu]
    · exact pure_none
  · rename_i hx hy
    split
    · rename_i hp
      obtain ⟨e, j, h4, h5⟩ := ptrT_spec (hT.pt t hp)
      have hpt : P.pointee t = e := by simp [Program.pointee, h4]
      refine eqN_ok op t ty x y _ fun ι ρ w h1 h2 => ?_
      rw [hx] at h1
      rw [hy] at h2
      have h1 : ρ x = _ := h1
      have h2 : ρ y = _ := h2
      rw [h1, h2]
      refine ⟨fun op => ?_, ?_, ?_⟩
      · rw [eqGuard_ptr]; rfl
      · simp only [Sem.run_bind, Sem.run_pure, Result.andThen_ok, run_eql_pointer_nil (P := P) w t none (by rw [hpt]; exact h4)]; rfl
      · simp only [Sem.run_bind, Sem.run_pure, Result.andThen_ok, run_neq_pointer_nil (P := P) w t none (by rw [hpt]; exact h4)]; rfl
    · exact pure_none
  · rename_i po off hx hy
    split
    · rename_i hp
      obtain ⟨e, j, h4, h5⟩ := ptrT_spec (hT.pt t hp)
      have hpt : P.pointee t = e := by simp [Program.pointee, h4]
      refine eqN_ok op t ty x y _ fun ι ρ w h1 h2 => ?_
      rw [hx] at h1
      rw [hy] at h2
      obtain ⟨pl, _, h1⟩ := h1
      have h2 : ρ y = _ := h2
      rw [h1, h2]
      refine ⟨fun op => ?_, ?_, ?_⟩
      · rw [eqGuard_ptr]; rfl
      · simp only [Sem.run_bind, Sem.run_pure, Result.andThen_ok, run_eql_pointer_nil (P := P) w t (some ⟨pl.b, pl.m + off, none⟩) (by rw [hpt]; exact h4)]; rfl
      · simp only [Sem.run_bind, Sem.run_pure, Result.andThen_ok, run_neq_pointer_nil (P := P) w t (some ⟨pl.b, pl.m + off, none⟩) (by rw [hpt]; exact h4)]; rfl
    · exact pure_none
  · rename_i hx hy
    split
    · rename_i e hk
      have hu := hT.kslice _ _ hk
      refine eqN_ok op t ty x y _ fun ι ρ w h1 h2 => ?_
      rw [hx] at h1
      rw [hy] at h2
      have h1 : ρ x = _ := h1
      have h2 : ρ y = _ := h2
      rw [h1, h2]
      refine ⟨fun op => ?_, ?_, ?_⟩
      · rw [eqGuard_at_slice]; rfl
      · simp only [Sem.run_bind, Sem.run_pure, Result.andThen_ok, Lib.run_eql_slice_nil w t e none 0 0 0 0 hu]; rfl
      · simp only [Sem.run_bind, Sem.run_pure, Result.andThen_ok, run_neq_slice_nil (P := P) w t e none 0 0 hu]; rfl
    · exact pure_none
  · rename_i so sz off len hx hy
    split
    · rename_i e hk
      have hu := hT.kslice _ _ hk
      have sv : ∀ ι v, RV ι (.sl so sz off len) v → ∃ a n c, v = .slice (some a) n c := fun ι v h => by
        obtain ⟨pl, c, _, _, _, ⟨_, _, h⟩ | ⟨_, a, h⟩⟩ := h <;> exact ⟨_, _, _, h⟩
      refine eqN_ok op t ty x y _ fun ι ρ w h1 h2 => ?_
      rw [hx] at h1
      rw [hy] at h2
      obtain ⟨a, n1, c1, h1⟩ := sv _ _ h1
      have h2 : ρ y = _ := h2
      rw [h1, h2]
      refine ⟨fun op => ?_, ?_, ?_⟩
      · rw [eqGuard_at_slice]; rfl
      · simp only [Sem.run_bind, Sem.run_pure, Result.andThen_ok, Lib.run_eql_slice_nil w t e (some a) n1 c1 0 0 hu]; rfl
      · simp only [Sem.run_bind, Sem.run_pure, Result.andThen_ok, run_neq_slice_nil (P := P) w t e (some a) n1 c1 hu]; rfl
    · exact pure_none
  · rename_i cs ds hx hy
    split
    · rename_i m hs
      split
      · rename_i r hl hr
        have hst := hT.ss _ _ hs
        have hlen : cs.length = m := by rw [← lenL_eq]; exact Nat.eq_of_beq_eq_true hl
        unfold strStruct2 at hst
        split at hst <;> try cases hst
        rename_i fs hu
        by_cases hc : (!P.stoodInHeld t && !P.eqGuardType P.depth t) = true
        case neg => rw [if_neg hc] at hst; cases hst
        rw [if_pos hc] at hst
        simp only [Bool.and_eq_true, Bool.not_eq_true'] at hc
        obtain ⟨c2, c3⟩ := hc
        have hS : P.underlying t = some (.struct (P.fieldsOf t)) := by simp [Program.fieldsOf, hu]
        have hfs : P.fieldsOf t = fs := by simp [Program.fieldsOf, hu]
        refine eqN_ok op t ty x y _ fun ι ρ w h1 h2 => ?_
        rw [hx] at h1
        rw [hy] at h2
        obtain ⟨us, e1, r1⟩ := h1
        obtain ⟨vs, e2, r2⟩ := h2
        obtain ⟨a, b, rfl, rfl, e3, l1, l2⟩ := eqAg_spec hr r1 r2
        have hr := eqF2_run (P := P) (w := w) 9997 fs.toList 0 m [] [] a b hst rfl rfl (by omega) (by omega)
        simp only [List.nil_append] at hr
        have heq : (Op.equalIn 10000 t (.agg (a.map Value.string).toArray) (.agg (b.map Value.string).toArray)).run P w = .ok (eqStrs a b) w := by
          rw [show (10000 : Nat) = 9999 + 1 from rfl, run_equalIn_agg w 9999 t _ _ hS c2, hfs]; exact hr
        have hg : ∀ op, (eqGuard op t x y (.agg (a.map Value.string).toArray) (.agg (b.map Value.string).toArray)).run P w = .ok () w := fun op => run_eqGuard_agg w op t x y _ _ c3
        rw [e1, e2]
        refine ⟨fun op => ?_, ?_, ?_⟩
        · exact hg op
        · simp only [Sem.run_bind, Result.andThen_ok, run_eql_struct, heq, Sem.run_pure, e3]
        · simp only [Sem.run_bind, Result.andThen_ok, run_neq_struct, heq, Sem.run_pure, e3]
      · exact pure_none
    · exact pure_none
  · exact pure_none
end
end Go.Proofs.Nw.X
end
section
/- X5: operations on values alone: moves, addresses, elements and pieces of texts and slices, lengths. -/
open Go Go.RowKit
set_option linter.unusedVariables false
set_option linter.unusedSimpArgs false
namespace Go.Proofs.Nw.X
open Go.Proofs.Nw.K
noncomputable def evPick (c a b : V) (kk : KP) : R := match c with | .b c => kk (cond c a b) | _ => none
noncomputable def evUn (op : UnOp) (x : V) (kk : KP) : R :=
  match op, x with
  | .not, .b x => fB (notB x) fun r => kk (.b r)
  | .neg, .i k n => fI (wrapK k (Int.sub 0 n)) fun r => kk (.i k r)
  | _, _ => none
noncomputable def evConvI (T : Tab) (s d : TypeId) (x : V) (kk : KP) : R :=
  match T.kd s, T.kd d, x with
  | .int _, .int k, .i _ n => fI (wrapK k n) fun r => kk (.i k r)
  | _, _, _ => none
noncomputable def evExt (i : Nat) (x : V) (kk : KP) : R := match x with | .tp vs => (match getL i vs with | some v => kk v | none => none) | _ => none
noncomputable def evFa (T : Tab) (s : TypeId) (f : Nat) (x : V) (kk : KP) : R :=
  match x with
  | .p o off => (match T.fo s f with
    | some k => fN (off + k) fun r => kk (.p o r)
    | none => none)
  | _ => none
noncomputable def evIa (T : Tab) (t : TypeId) (x i : V) (kk : KP) : R :=
  match x, i, T.el t with
  | .sl o _ off len, .i _ (.ofNat i), some (_, sz) => cond (Nat.blt i len) (fN (off + i * sz) fun a => kk (.p o a)) none
  | _, _, _ => none
noncomputable def evIx (T : Tab) (t : TypeId) (x i : V) (kk : KP) : R :=
  match x, i, T.kd t with
  | .s l a, .i _ (.ofNat i), .str => cond (Nat.blt i l) (fN (byt l a i) fun c => kk (.i .u8 (.ofNat c))) none
  | _, _, _ => none
noncomputable def bnd (d : Nat) : Option V → Option Nat
  | none => some d
  | some v => match v with | .i .i64 (.ofNat n) => some n | _ => none
noncomputable def evSlc (T : Tab) (t : TypeId) (x : V) (lo hi : Option V) (kk : KP) : R :=
  match x with
  | .s l a => match T.kd t, bnd 0 lo, bnd l hi with
    | .str, some lo, some hi => cond (Nat.ble lo hi) (cond (Nat.ble hi l) (fN (hi - lo) fun m => fN (a / 256 ^ (l - hi) % 256 ^ m) fun b => kk (.s m b)) none) none
    | _, _, _ => none
  | .sl o sz0 off len => match T.el t, bnd 0 lo, bnd len hi with
    | some (_, sz), some lo, some hi => cond (Nat.beq sz sz0) (cond (Nat.ble lo hi) (cond (Nat.ble hi len) (fN (off + lo * sz) fun a => fN (hi - lo) fun m => kk (.sl o sz a m)) none) none) none
    | _, _, _ => none
  | .ns => match T.el t, bnd 0 lo, bnd 0 hi with
    | some _, some 0, some 0 => kk .ns
    | _, _, _ => none
  | _ => none
noncomputable def evLen (T : Tab) (t : TypeId) (x : V) (kk : KP) : R :=
  match x, T.kd t with
  | .s l _, .str => kk (.i .i64 (.ofNat l))
  | .sl _ _ _ l, .slice _ => kk (.i .i64 (.ofNat l))
  | .ns, .slice _ => kk (.i .i64 (.ofNat 0))
  | _, _ => none
noncomputable def evMax (x y : V) (kk : KP) : R := match x, y with | .i k a, .i k' b => cond (Nat.beq (ikN k) (ikN k')) (kk (.i k (cond (ilt a b) b a))) none | _, _ => none
section
variable {P : Program} {T : Tab} (hT : TabOk P T) {E : Operand → V} {kk : KP}
theorem move_ok (x : Operand) : Pure P (.move x) E kk (kk (E x)) :=
  pure_one fun h n o ho w0 ι ρ w hb hρ => ⟨ρ x, by simp [execOp, ho], hρ x (by simp [Op.operands])⟩
theorem assign_ok (x : Operand) : Pure P (.assign x) E kk (kk (E x)) :=
  pure_one fun h n o ho w0 ι ρ w hb hρ => ⟨ρ x, by simp [execOp, ho], hρ x (by simp [Op.operands])⟩
theorem pick_ok (c x y : Operand) : Pure P (.pick c x y) E kk (evPick (E c) (E x) (E y) kk) := by
  unfold evPick
  split
  · rename_i b hc
    refine pure_one fun h n o ho w0 ι ρ w hb hρ => ?_
    have h0 := hρ c (by simp [Op.operands])
    rw [hc] at h0
    have h0 : ρ c = _ := h0
    cases b
    · exact ⟨ρ y, by simp [execOp, ho, h0, asBool], hρ y (by simp [Op.operands])⟩
    · exact ⟨ρ x, by simp [execOp, ho, h0, asBool], hρ x (by simp [Op.operands])⟩
  · exact pure_none
theorem un_ok (op : UnOp) (t : TypeId) (x : Operand) : Pure P (.unOp op t x) E kk (evUn op (E x) kk) := by
  unfold evUn
  split
  · rename_i b hx
    rw [fB_eq]
    refine pure_one fun h n o ho w0 ι ρ w hb hρ => ?_
    have h0 := hρ x (by simp [Op.operands])
    rw [hx] at h0
    have h0 : ρ x = _ := h0
    exact ⟨.bool !b, by simp [execOp, ho, h0, Op.unary], by rw [notB_eq]; rfl⟩
  · rename_i k m hx
    rw [fI_eq, wrapK_eq]
    refine pure_one fun h n o ho w0 ι ρ w hb hρ => ?_
    have h0 := hρ x (by simp [Op.operands])
    rw [hx] at h0
    have h0 : ρ x = _ := h0
    exact ⟨.int k (k.wrap (0 - m)), by simp [execOp, ho, h0, Op.unary, Op.intArith], rfl⟩
  · exact pure_none
include hT in
theorem convI_ok (s d : TypeId) (x : Operand) : Pure P (.convert s d x) E kk (evConvI T s d (E x) kk) := by
  unfold evConvI
  split
  · rename_i k1 k k2 m h1 h2 hx
    rw [fI_eq, wrapK_eq]
    refine pure_one fun h n o ho w0 ι ρ w hb hρ => ?_
    have h0 := hρ x (by simp [Op.operands])
    rw [hx] at h0
    have h0 : ρ x = _ := h0
    exact ⟨_, by simp [execOp, ho, h0, convert, run_underlying (hT.kint _ _ h1), run_underlying (hT.kint _ _ h2), Conv.intToInt], rfl⟩
  · exact pure_none
theorem ext_ok (x : Operand) (i : Nat) : Pure P (.extract x i) E kk (evExt i (E x) kk) := by
  unfold evExt
  split
  · rename_i vs hx
    rw [getL_eq]
    split
    · rename_i v hv
      refine pure_one fun h n o ho w0 ι ρ w hb hρ => ?_
      have h0 := hρ x (by simp [Op.operands])
      rw [hx] at h0
      obtain ⟨us, e, hr⟩ := h0
      obtain ⟨u, hu, hr'⟩ := hr.get hv
      refine ⟨u, ?_, hr'⟩
      have : us.toArray[i]? = some u := by simpa using hu
      simp [execOp, ho, e, Instr.extract, hu]
    · exact pure_none
  · exact pure_none
include hT in
theorem fa_ok (s : TypeId) (f : Nat) (x : Operand) : Pure P (.fieldAddr s x f) E kk (evFa T s f (E x) kk) := by
  unfold evFa
  split
  · rename_i o' off hx
    split
    · rename_i k hf
      rw [fN_eq]
      refine pure_one fun h n o ho w0 ι ρ w hb hρ => ?_
      have h0 := hρ x (by simp [Op.operands])
      rw [hx] at h0
      obtain ⟨pl, e, h0⟩ := h0
      exact ⟨.pointer (some ⟨pl.b, pl.m + off + k, none⟩), by simp [execOp, ho, h0, fieldOff_run (hT.fo _ _ _ hf), K.add_lit], pl, e, by rw [Nat.add_assoc]⟩
    · exact pure_none
  · exact pure_none
include hT in
theorem ia_ok (t : TypeId) (x i : Operand) : Pure P (.indexAddr t x i) E kk (evIa T t (E x) (E i) kk) := by
  unfold evIa
  split
  · rename_i so sz0 off len k m e sz hx hi hel
    rw [blt_eq]
    by_cases hlt : m < len
    · simp only [hlt, decide_true, cond_true, fN_eq]
      obtain ⟨hu, ti, hinfo, hsz⟩ := elT_spec (hT.el _ _ hel)
      refine pure_one fun h n o ho w0 ι ρ w hb hρ => ?_
      have h1 := hρ x (by simp [Op.operands])
      have h2 := hρ i (by simp [Op.operands])
      rw [hx] at h1
      rw [hi] at h2
      have h2 : ρ i = .int k (m : Int) := h2
      obtain ⟨pl, c, e1, h3, h4, ⟨h5, h6, h7⟩ | ⟨h5, _⟩⟩ := h1
      · refine ⟨.pointer (some ⟨pl.b, pl.m + off + m * sz, none⟩), ?_, pl, e1, by rw [Nat.add_assoc]⟩
        have : ¬ (len ≤ m) := by omega
        simp [execOp, ho, h7, h2, Instr.indexAt, asIntOf, run_underlying hu, sizeOf, typeInfo, hinfo, hlt, this, K.add_lit, hsz]
      · omega
    · simp only [hlt, decide_false, cond_false]; exact pure_none
  · exact pure_none
include hT in
theorem ix_ok (t : TypeId) (x i : Operand) : Pure P (.index t x i) E kk (evIx T t (E x) (E i) kk) := by
  unfold evIx
  split
  · rename_i l a k m hx hi hk
    rw [blt_eq]
    by_cases hlt : m < l
    · simp only [hlt, decide_true, cond_true, fN_eq]
      refine pure_one fun h n o ho w0 ι ρ w hb hρ => ?_
      have h1 := hρ x (by simp [Op.operands])
      have h2 := hρ i (by simp [Op.operands])
      rw [hx] at h1
      rw [hi] at h2
      have h2 : ρ i = .int k (m : Int) := h2
      obtain ⟨s, h3, h4⟩ := h1
      have hls : m < s.data.toList.length := by rw [h4.1]; exact hlt
      have hget : s.data.toList[m]? = some s.data.toList[m] := by simp [hls]
      have hb' := byt_eq s.data.toList m _ hget
      rw [h4.1, h4.2] at hb'
      have hsz : m < s.size := by rw [h4.size]; exact hlt
      refine ⟨.int .u8 (s.data.toList[m].toNat : Int), ?_, by rw [hb']; rfl⟩
      have hg : s[m]? = some s[m] := by simp [hsz]
      have e : s[m] = s.data.toList[m] := by simp; rfl
      simp [execOp, ho, h3, h2, Instr.index, asIntOf, run_underlying (hT.kstr _ hk), hg]
      rfl
    · simp only [hlt, decide_false, cond_false]; exact pure_none
  · exact pure_none
def Bd (ρ : Operand → Value) (d l : Nat) : Option Operand → Prop
  | some o => ∃ n : Int, ρ o = .int .i64 n ∧ 0 ≤ n ∧ n.toNat = l
  | none => l = d
theorem bnd_spec {ι : Io} {E : Operand → V} {ρ : Operand → Value} {d l : Nat} {lo : Option Operand} (h : bnd d (lo.map E) = some l) (hr : ∀ x, lo = some x → RV ι (E x) (ρ x)) : Bd ρ d l lo := by
  cases lo with
  | none => simp [bnd] at h; exact h.symm
  | some o =>
    simp only [Option.map_some, bnd] at h
    split at h
    · rename_i n he
      cases h
      have := hr o rfl
      rw [he] at this
      exact ⟨_, this, by simp, by simp⟩
    · cases h
theorem run_sliceSl {P : Program} {t e : TypeId} {ρ : Operand → Value} {w : World} (hu : P.underlying t = some (.slice e)) (sz : Nat) (hs : (sizeOf e).run P w = .ok sz w) (A : Option Addr) (len cap : Nat) (lo hi : Option Operand) (l h : Nat)
    (hl : Bd ρ 0 l lo) (hh : Bd ρ len h hi)
    (h1 : l ≤ h) (h2 : h ≤ cap) : (Instr.sliceAt t (.slice A len cap) (lo.map ρ) (hi.map ρ) none).run P w = .ok (.slice (if cap = l then A else A.map (·.add (l * sz))) (h - l) (cap - l)) w :=
  run_sliceAt hu sz hs A len cap lo hi l h (by cases lo <;> exact hl) (by cases hi <;> exact hh) h1 h2
theorem run_sliceStr {P : Program} {t : TypeId} {ρ : Operand → Value} {w : World} (hu : P.underlying t = some .string) (s : ByteArray) (lo hi : Option Operand) (l h : Nat)
    (hl : Bd ρ 0 l lo) (hh : Bd ρ s.size h hi) (h1 : l ≤ h) (h2 : h ≤ s.size) : (Instr.sliceAt t (.string s) (lo.map ρ) (hi.map ρ) none).run P w = .ok (.string (s.extract l h)) w := by
  cases lo with
  | none =>
    simp only [Bd] at hl
    subst hl
    cases hi with
    | none =>
      simp only [Bd] at hh
      subst hh
      simp [Instr.sliceAt, Instr.slice, Instr.sliceBounds, run_underlying hu]
    | some oh =>
      obtain ⟨n, e1, e2, e3⟩ := hh
      have : n ≤ (s.size : Int) := by omega
      simp [Instr.sliceAt, Instr.slice, Instr.sliceBounds, Instr.sliceBound, asIntOf, run_underlying hu, e1, e2, this, e3]
  | some ol =>
    obtain ⟨m, f1, f2, f3⟩ := hl
    cases hi with
    | none =>
      simp only [Bd] at hh
      subst hh
      have : m ≤ (s.size : Int) := by omega
      simp [Instr.sliceAt, Instr.slice, Instr.sliceBounds, Instr.sliceBound, asIntOf, run_underlying hu, f1, f2, this, f3]
    | some oh =>
      obtain ⟨n, e1, e2, e3⟩ := hh
      have : n ≤ (s.size : Int) := by omega
      have : m ≤ (h : Int) := by omega
      simp [Instr.sliceAt, Instr.slice, Instr.sliceBounds, Instr.sliceBound, asIntOf, run_underlying hu, e1, e2, f1, f2, f3, e3, *]
theorem srep_extract {l a : Nat} {s : ByteArray} (h : SRep l a s) {lo hi : Nat} (h1 : lo ≤ hi) (h2 : hi ≤ l) : SRep (hi - lo) (a / 256 ^ (l - hi) % 256 ^ (hi - lo)) (s.extract lo hi) := by
  have e : (s.extract lo hi).data.toList = (s.data.toList.take hi).drop lo := by
    simp [List.extract_eq_take_drop, List.drop_take]
  have hl := h.1
  refine ⟨by rw [e]; simp [hl] ; omega, ?_⟩
  rw [e, valB_drop _ _ (by simp [hl]; omega), valB_take _ _ (by omega), hl, h.2]
  congr 2
  simp [hl]; omega
include hT in
theorem slc_ok (t : TypeId) (x : Operand) (lo hi : Option Operand) : Pure P (.slice t x lo hi none) E kk (evSlc T t (E x) (lo.map E) (hi.map E) kk) := by
  have ol : ∀ y, lo = some y → y ∈ (Op.slice t x lo hi none).operands := fun y hy => by subst hy; simp [Op.operands]
  have oh : ∀ y, hi = some y → y ∈ (Op.slice t x lo hi none).operands := fun y hy => by subst hy; simp [Op.operands]
  unfold evSlc
  split
  · rename_i l a hx
    split
    · rename_i l' h' hk hlo hhi
      rw [ble_eq, ble_eq]
      by_cases c1 : l' ≤ h'
      · by_cases c2 : h' ≤ l
        · simp only [c1, c2, decide_true, cond_true, fN_eq]
          refine pure_one fun h n o ho w0 ι ρ w hb hρ => ?_
          have h1 := hρ x (by simp [Op.operands])
          rw [hx] at h1
          obtain ⟨s, h3, h4⟩ := h1
          have hrun := run_sliceStr (P := P) (ρ := ρ) (w := w) (hT.kstr _ hk) s lo hi l' h' (bnd_spec hlo fun y hy => hρ y (ol y hy)) (by rw [h4.size]; exact bnd_spec hhi fun y hy => hρ y (oh y hy)) c1 (by rw [h4.size]; exact c2)
          exact ⟨_, by simp [execOp, ho, h3, hrun], _, rfl, srep_extract h4 c1 c2⟩
        · simp only [c1, c2, decide_true, decide_false, cond_true, cond_false]; exact pure_none
      · simp only [c1, decide_false, cond_false]; exact pure_none
    · exact pure_none
  · rename_i so sz0 off len hx
    split
    · rename_i e sz l' h' hel hlo hhi
      rw [ble_eq, ble_eq, beq_eq]
      by_cases c0 : sz = sz0
      case neg => simp only [c0, decide_false, cond_false]; exact pure_none
      by_cases c1 : l' ≤ h'
      case neg => simp only [c0, c1, decide_true, decide_false, cond_true, cond_false]; exact pure_none
      by_cases c2 : h' ≤ len
      case neg => simp only [c0, c1, c2, decide_true, decide_false, cond_true, cond_false]; exact pure_none
      simp only [c0, c1, c2, decide_true, cond_true, fN_eq]
      subst c0
      obtain ⟨hu, ti, hinfo, hsz⟩ := elT_spec (hT.el _ _ hel)
      refine pure_one fun h n o ho w0 ι ρ w hb hρ => ?_
      have h1 := hρ x (by simp [Op.operands])
      rw [hx] at h1
      obtain ⟨pl, c, e1, h3, h4, hv⟩ := h1
      have hrun : ∀ A len', len' = len → (Instr.sliceAt t (.slice A len' c) (lo.map ρ) (hi.map ρ) none).run P w = .ok (.slice (if c = l' then A else A.map (·.add (l' * sz))) (h' - l') (c - l')) w := fun A len' el => by
        subst el
        exact run_sliceSl (P := P) (ρ := ρ) (w := w) hu sz (by simp [sizeOf, typeInfo, hinfo, hsz]) A len' c lo hi l' h' (bnd_spec hlo fun y hy => hρ y (ol y hy)) (bnd_spec hhi fun y hy => hρ y (oh y hy)) c1 (by omega)
      rcases hv with ⟨h5, h6, h7⟩ | ⟨h5, a, h7⟩
      · refine ⟨_, by simp only [execOp, ho, Sem.run_bind, h7, Option.map_none, hrun _ _ rfl, Result.andThen_ok, Sem.run_pure]; rfl, pl, c - l', e1, by omega, by omega, ?_⟩
        by_cases hc : c = l'
        · subst hc
          refine .inr ⟨by omega, ⟨pl.b, pl.m + off, none⟩, ?_⟩
          rw [if_pos rfl, show h' - c = 0 by omega, Nat.sub_self]
        · refine .inl ⟨by omega, ?_, ?_⟩
          · have e2 : c * sz = l' * sz + (c - l') * sz := by rw [← Nat.add_mul]; congr 1; omega
            omega
          · rw [if_neg hc]; simp [K.add_lit, Nat.add_assoc]
      · subst h5
        have : l' = 0 := by omega
        have : h' = 0 := by omega
        subst l' h'
        exact ⟨_, by simp only [execOp, ho, Sem.run_bind, h7, Option.map_none, hrun _ _ (show 0 = len by omega), Result.andThen_ok, Sem.run_pure]; rfl, pl, 0, e1, by omega, by omega, .inr ⟨rfl, a, by simp⟩⟩
    · exact pure_none
  · rename_i hx
    split
    · rename_i el hel hlo hhi
      obtain ⟨hu, ti, hinfo, hsz⟩ := elT_spec (e := el.1) (sz := el.2) (hT.el _ _ hel)
      refine pure_one fun h n o ho w0 ι ρ w hb hρ => ?_
      have h1 := hρ x (by simp [Op.operands])
      rw [hx] at h1
      have h1 : ρ x = _ := h1
      have hrun := run_sliceSl (P := P) (ρ := ρ) (w := w) hu el.2 (by simp [sizeOf, typeInfo, hinfo, hsz]) none 0 0 lo hi 0 0 (bnd_spec hlo fun y hy => hρ y (ol y hy)) (bnd_spec hhi fun y hy => hρ y (oh y hy)) (by omega) (by omega)
      exact ⟨.slice none 0 0, by simp only [execOp, ho, Sem.run_bind, h1, Option.map_none, hrun, Result.andThen_ok, Sem.run_pure]; rfl, rfl⟩
    · exact pure_none
  · exact pure_none
include hT in
theorem len_ok (t : TypeId) (x : Operand) : Pure P (.call { callee := .builtin .len, args := #[x], argTypes := #[t] }) E kk (evLen T t (E x) kk) := by
  unfold evLen
  split
  · rename_i l a hx hk
    refine pure_one fun h n o ho w0 ι ρ w hb hρ => ?_
    have h1 := hρ x (by simp [Op.operands, Call.operands])
    rw [hx] at h1
    obtain ⟨s, h3, h4⟩ := h1
    exact ⟨.int .i64 (l : Int), by simp [execOp, ho, resolve, invoke, builtin, Builtin.len_, run_underlying (hT.kstr _ hk), h3, goInt, h4.size], rfl⟩
  · rename_i so sz0 off l e hx hk
    refine pure_one fun h n o ho w0 ι ρ w hb hρ => ?_
    have h1 := hρ x (by simp [Op.operands, Call.operands])
    rw [hx] at h1
    obtain ⟨pl, c, _, _, _, ⟨_, _, h3⟩ | ⟨_, a, h3⟩⟩ := h1
    · exact ⟨.int .i64 (l : Int), by simp [execOp, ho, resolve, invoke, builtin, Builtin.len_, run_underlying (hT.kslice _ _ hk), h3, goInt], rfl⟩
    · have : l = 0 := by omega
      subst this
      exact ⟨.int .i64 (0 : Int), by simp [execOp, ho, resolve, invoke, builtin, Builtin.len_, run_underlying (hT.kslice _ _ hk), h3, goInt], rfl⟩
  · rename_i e hx hk
    refine pure_one fun h n o ho w0 ι ρ w hb hρ => ?_
    have h1 := hρ x (by simp [Op.operands, Call.operands])
    rw [hx] at h1
    have h1 : ρ x = _ := h1
    exact ⟨.int .i64 (0 : Int), by simp [execOp, ho, resolve, invoke, builtin, Builtin.len_, run_underlying (hT.kslice _ _ hk), h1, goInt], rfl⟩
  · exact pure_none
theorem max_ok (ts : Array TypeId) (x y : Operand) : Pure P (.call { callee := .builtin .max, args := #[x, y], argTypes := ts }) E kk (evMax (E x) (E y) kk) := by
  unfold evMax
  split
  · rename_i k a k' b hx hy
    cases hc : Nat.beq (ikN k) (ikN k') with
    | false => exact pure_none
    | true =>
      have := ikN_inj hc
      subst this
      simp only [cond_true, ilt_eq]
      refine pure_one fun h n o ho w0 ι ρ w hb hρ => ?_
      have h1 := hρ x (by simp [Op.operands, Call.operands])
      have h2 := hρ y (by simp [Op.operands, Call.operands])
      rw [hx] at h1
      rw [hy] at h2
      have h1 : ρ x = _ := h1
      have h2 : ρ y = _ := h2
      refine ⟨.int k (if b > a then b else a), by simp [execOp, ho, resolve, invoke, builtin, h1, h2, Builtin.max_, Builtin.max2], ?_⟩
      show _ = _
      by_cases e : a < b <;> simp [e]
  · exact pure_none
end
end Go.Proofs.Nw.X
end
section
/- X6: operations on memory: loads, stores, new variables, structs and slices built. -/
open Go Go.RowKit
set_option linter.unusedVariables false
set_option linter.unusedSimpArgs false
namespace Go.Proofs.Nw.X
open Go.Proofs.Nw.K
def Ob (P : Program) (op : Op) (E : Operand → V) (h : H) (n : Id) (k : KV) (r : R) : Prop := ∀ x, r = some x → ∃ v h' n', k v h' n' = some x ∧ XOp P op E h n v h' n'
theorem Pure.ob {P : Program} {op : Op} {E : Operand → V} {h : H} {n : Id} {k : KV} {r : R} (hp : Pure P op E (fun v => k v h n) r) : Ob P op E h n k r := fun x hx => by
  obtain ⟨v, h1, h2⟩ := hp x hx
  exact ⟨v, h, n, h1, h2 h n⟩
theorem ob_none {P : Program} {op : Op} {E : Operand → V} {h : H} {n : Id} {k : KV} : Ob P op E h n k none := fun x hx => by cases hx
theorem ob_mk {P : Program} {op : Op} {E : Operand → V} {h h' : H} {n n' : Id} {k : KV} {v : V} (hx : XOp P op E h n v h' n') : Ob P op E h n k (k v h' n') := fun x hr => ⟨v, h', n', hr, hx⟩
theorem ob_cond {P : Program} {op : Op} {E : Operand → V} {h : H} {n : Id} {k : KV} {b : Bool} {r : R} (hx : b = true → Ob P op E h n k r) : Ob P op E h n k (cond b r none) := by
  cases b
  · exact ob_none
  · exact hx rfl
theorem run_storeCells {P : Program} {b o : Nat} {e : TypeId} {fr : Nat × Nat} : ∀ (vs : List Value) (i : Nat) (cur : Array Value) (w : World), w.heap[b]? = some (.cells cur e fr) → o + i + vs.length ≤ cur.size →
    (∀ off, o + i ≤ off → off < o + i + vs.length → ¬ (fr.1 ≤ off ∧ off < fr.2)) → (∀ v ∈ vs, v.oneCell' = true) →
    ∃ w' cur', (storeCells ⟨b, o, none⟩ vs i).run P w = .ok () w' ∧ w.grownBy w' (some b) ∧ w.drawn ≤ w'.drawn ∧ w'.heap.size = w.heap.size ∧ w'.heap[b]? = some (.cells cur' e fr) ∧ cur'.size = cur.size ∧
      ∀ j, cur'[j]? = if o + i ≤ j ∧ j < o + i + vs.length then vs[j - (o + i)]? else cur[j]?
  | [], i, cur, w, hg, hl, hf, h1 => by
    refine ⟨w, cur, by simp [storeCells], ⟨rfl, rfl, rfl, Nat.le_refl _, fun _ _ _ => rfl⟩, Nat.le_refl _, rfl, hg, rfl, fun j => ?_⟩
    rw [if_neg (by simp)]
  | v :: vs, i, cur, w, hg, hl, hf, h1 => by
    have hlt : o + i < cur.size := by simp at hl; omega
    have hcell : w.cell? ⟨b, o + i, none⟩ = some cur[o + i] := by rw [cell_of_row w b _ cur e fr hg]; simp [hlt]
    have hfro : w.frozen? ⟨b, o + i, none⟩ = false := by
      have := hf (o + i) (Nat.le_refl _) (by simp)
      simp only [World.frozen?, hg]
      by_cases c1 : fr.1 ≤ o + i
      · have : ¬ (o + i < fr.2) := fun c2 => this ⟨c1, c2⟩
        simp [this]
      · simp [c1]
    have hrun : (store ⟨b, o + i, none⟩ v).run P w = .ok () (w.setRow b (cur.setIfInBounds (o + i) v)) := by
      rw [run_store P w _ _ _ (h1 v (by simp)), hcell]
      simp [hfro, setCell_eq_setRow w b (o + i) cur e fr _ hg]
    obtain ⟨w', cur', r1, r2, r3, r4, r5, r6, r7⟩ := run_storeCells (P := P) (b := b) (o := o) (e := e) (fr := fr) vs (i + 1) (cur.setIfInBounds (o + i) v) (w.setRow b (cur.setIfInBounds (o + i) v)) (setRow_heap w b cur _ e fr hg) (by simp at hl ⊢; omega)
      (fun off a c => hf off (by omega) (by simp; omega)) (fun x hx => h1 x (by simp [hx]))
    have hadd : (⟨b, o, none⟩ : Addr).add i = ⟨b, o + i, none⟩ := K.add_lit b o i
    refine ⟨w', cur', by simp only [storeCells, Sem.run_bind, hadd, hrun, Result.andThen_ok, r1], ?_, by simpa using r3, by simpa using r4, r5, by simpa using r6, fun j => ?_⟩
    · have g := grown_setRow w b (cur.setIfInBounds (o + i) v)
      exact ⟨r2.os.trans g.os, r2.tape.trans g.tape, r2.output.trans g.output, Nat.le_trans g.size r2.size, fun k hk hne => (r2.block k (Nat.lt_of_lt_of_le hk g.size) hne).trans (g.block k hk hne)⟩
    · rw [r7]
      by_cases c1 : o + (i + 1) ≤ j ∧ j < o + (i + 1) + vs.length
      · rw [if_pos c1, if_pos (by simp; omega)]
        have : j - (o + i) = (j - (o + (i + 1))) + 1 := by omega
        rw [this]; simp
      · rw [if_neg c1, Array.getElem?_setIfInBounds]
        by_cases c2 : o + i = j
        · subst c2
          rw [if_pos rfl, if_pos hlt, if_pos ⟨Nat.le_refl _, by simp⟩]; simp
        · rw [if_neg c2, if_neg (by simp; omega)]
noncomputable def allL (l : List V) : Bool := List.rec true (fun x _ ih => cond (one x) ih false) l
theorem allL_spec : ∀ {l : List V}, allL l = true → ∀ (i : Nat) x, l[i]? = some x → one x = true
  | [], _, i, x, h => by simp at h
  | y :: l, h, i, x, hx => by
    have h' : cond (one y) (allL l) false = true := h
    cases ho : one y with
    | false => rw [ho] at h'; cases h'
    | true =>
      rw [ho] at h'
      cases i with
      | zero => simp at hx; subst hx; exact ho
      | succ i => exact allL_spec h' i x (by simpa using hx)
noncomputable def setB (len x i c : Nat) : Nat := x - byt len x i * 256 ^ (len - 1 - i) + c * 256 ^ (len - 1 - i)
theorem setB_spec (l : List UInt8) (i : Nat) (b : UInt8) (h : i < l.length) : setB l.length (valB l) i b.toNat = valB (l.set i b) := by
  have hget : l[i]? = some l[i] := by simp [h]
  have hb := byt_eq l i _ hget
  unfold setB
  rw [hb]
  have e1 : l = l.take i ++ l[i] :: l.drop (i + 1) := by
    rw [List.getElem_cons_drop, List.take_append_drop]
  have e2 : l.set i b = l.take i ++ b :: l.drop (i + 1) := by
    rw [List.set_eq_take_append_cons_drop, if_pos h]
  have hl : (l.drop (i + 1)).length = l.length - 1 - i := by simp; omega
  have v1 : valB l = valB (l.take i) * 256 ^ (l.length - 1 - i + 1) + (l[i].toNat * 256 ^ (l.length - 1 - i) + valB (l.drop (i + 1))) := by
    conv => lhs; rw [e1]
    rw [valB_app]; simp only [List.length_cons, valB, hl]
  have v2 : valB (l.set i b) = valB (l.take i) * 256 ^ (l.length - 1 - i + 1) + (b.toNat * 256 ^ (l.length - 1 - i) + valB (l.drop (i + 1))) := by
    rw [e2, valB_app]; simp only [List.length_cons, valB, hl]
  rw [v1, v2]; omega
noncomputable def getK (x : O) (off : Nat) (kk : KP) : R :=
  match x with
  | .cs _ _ xs => (match getL off xs with | some v => kk v | none => none)
  | .bs _ _ l a => cond (Nat.blt off l) (fN (byt l a off) fun c => kk (.i .u8 (.ofNat c))) none
  | _ => none
noncomputable def evLd1 (a : V) (h : H) (kk : KP) : R := match a with | .p o off => (match T.get o h with | some x => getK x off kk | none => none) | _ => none
noncomputable def evLdn (m : Nat) (a : V) (h : H) (kk : KP) : R :=
  match a with
  | .p o off => (match T.get o h with
    | some (.cs _ _ xs) => cond (Nat.beq (lenL (takeL m (dropL off xs))) m) (kk (.ag (takeL m (dropL off xs)))) none
    | _ => none)
  | _ => none
noncomputable def evLoad (T : Tab) (t : TypeId) (a : V) (h : H) (kk : KP) : R :=
  match T.ld t with
  | some (m, true) => evLdn m a h kk
  | some (_, false) => evLd1 a h kk
  | none => none
noncomputable def evSt1 (a x : V) (h : H) (n : Id) (k : KV) : R :=
  match a with
  | .p o off => (match T.get o h with
    | some (.cs ty fz xs) => cond (one x) (cond (Nat.ble fz off) (cond (Nat.blt off (lenL xs)) (k .j (T.set (.cs ty fz (setL x off xs)) o h) n) none) none) none
    | some (.bs ty fz l b) => (match x with
      | .i .u8 (.ofNat c) => cond (Nat.blt c 256) (cond (Nat.ble fz off) (cond (Nat.blt off l) (fN (setB l b off c) fun b' => k .j (T.set (.bs ty fz l b') o h) n) none) none) none
      | _ => none)
    | _ => none)
  | _ => none
noncomputable def evStn (m : Nat) (a x : V) (h : H) (n : Id) (k : KV) : R :=
  match a, x with
  | .p o off, .ag cs => (match T.get o h with
    | some (.cs ty fz xs) => cond (allL cs) (cond (Nat.beq (lenL cs) m) (cond (Nat.ble fz off) (cond (Nat.ble (off + m) (lenL xs)) (k .j (T.set (.cs ty fz (blitL cs off xs)) o h) n) none) none) none) none
    | _ => none)
  | _, _ => none
noncomputable def evStore (T : Tab) (t : TypeId) (a x : V) (h : H) (n : Id) (k : KV) : R :=
  match T.ld t with
  | some (m, true) => evStn m a x h n k
  | some (1, false) => evSt1 a x h n k
  | _ => none
section
variable {P : Program} {T : Tab} (hT : TabOk P T) {E : Operand → V} {h : H} {n : Id} {k : KV}
include hT in
theorem load_ok (t : TypeId) (a : Operand) : Ob P (.load t a) E h n k (evLoad T t (E a) h fun v => k v h n) := by
  unfold evLoad
  split
  · rename_i m hl
    unfold evLdn
    split
    · rename_i o' off ha
      split
      · rename_i fz xs hg
        rw [takeL_eq, dropL_eq, lenL_eq, beq_eq]
        refine ob_cond fun hc => ?_
        have hlen : ((xs.drop off).take m).length = m := of_decide_eq_true hc
        refine ob_mk (xop_pure fun o ho w0 ι ρ w hb hρ => ?_)
        have h1 := hρ a (by simp [Op.operands])
        rw [ha] at h1
        obtain ⟨pl, e1, h1⟩ := h1
        obtain ⟨vals, e, fr, h2, h3, h4, h5, h6⟩ := hb.obj _ _ _ e1 hg
        have hle : off + m ≤ xs.length ∨ m = 0 := by simp at hlen; omega
        have hvl : ((vals.toList.drop (pl.m + off)).take m).length = m := by simp; omega
        have hr := run_loadVar_agg (P := P) (hT.ld _ _ hl) (w := w) (b := pl.b) (o := pl.m + off) ((vals.toList.drop (pl.m + off)).take m) hvl (fun j v hv => by
          rw [List.getElem?_take] at hv
          split at hv
          · rw [cell_of_row w _ _ vals e fr h2]; simpa using hv
          · cases hv)
        refine ⟨.agg ((vals.toList.drop (pl.m + off)).take m).toArray, by simp only [execOp, ho, h1, Instr.loadAt, Instr.sureAddr, Sem.run_bind, Sem.run_pure, Result.andThen_ok, hr], _, rfl, ?_⟩
        refine RVs_iff.2 ⟨by rw [hvl, hlen], fun i x hx => ?_⟩
        have hi : i < m := by have := (List.getElem?_eq_some_iff.1 hx).1; omega
        rw [List.getElem?_take_of_lt hi, List.getElem?_drop] at hx ⊢
        obtain ⟨u, a1, a2, _⟩ := h5 _ x hx
        exact ⟨u, by rw [Array.getElem?_toList, ← a1, Nat.add_assoc], a2⟩
      · exact ob_none
    · exact ob_none
  · rename_i m hl
    unfold evLd1
    split
    · rename_i o' off ha
      split
      · rename_i x hg
        refine fun r hr => ?_
        have key : ∃ v, k v h n = some r ∧ ∀ ι w pl, OOk ι w pl x → ∃ u, w.cell? ⟨pl.b, pl.m + off, none⟩ = some u ∧ RV ι v u := by
          unfold getK at hr
          split at hr
          · rename_i fz xs
            rw [getL_eq] at hr
            split at hr
            · rename_i v hv
              refine ⟨v, hr, fun ι w pl hx => ?_⟩
              obtain ⟨vals, e, fr, h1, h2, h3, h4, h5⟩ := hx
              obtain ⟨u, a, b, c⟩ := h4 off v hv
              exact ⟨u, by rw [cell_of_row w _ _ vals e fr h1]; exact a, b⟩
            · cases hr
          · rename_i fz l a
            rw [blt_eq] at hr
            by_cases c : off < l
            · simp only [c, decide_true, cond_true, fN_eq] at hr
              refine ⟨_, hr, fun ι w pl hx => ?_⟩
              obtain ⟨vals, e, fr, bs, h1, h2, h3, h4, h5, h6, h7⟩ := hx
              have hlt : off < bs.length := by omega
              have hg : bs[off]? = some bs[off] := by simp [hlt]
              have hb := byt_eq bs off _ hg
              rw [h4, h5] at hb
              refine ⟨_, by rw [cell_of_row w _ _ vals e fr h1]; exact h6 off _ hg, ?_⟩
              rw [hb]; rfl
            · simp only [c, decide_false, cond_false] at hr; cases hr
          · cases hr
        obtain ⟨v, hk, hv⟩ := key
        refine ⟨v, h, n, hk, xop_pure fun o ho w0 ι ρ w hb hρ => ?_⟩
        have h1 := hρ a (by simp [Op.operands])
        rw [ha] at h1
        obtain ⟨pl, e1, h1⟩ := h1
        obtain ⟨u, hc, hu⟩ := hv ι w pl (hb.obj _ _ _ e1 hg)
        exact ⟨u, by simp [execOp, ho, h1, Instr.loadAt, Instr.sureAddr, run_loadVar_one (hT.ld _ _ hl) hc], hu⟩
      · exact ob_none
    · exact ob_none
  · exact ob_none
include hT in
theorem store_ok (t : TypeId) (a x : Operand) : Ob P (.store t a x) E h n k (evStore T t (E a) (E x) h n k) := by
  unfold evStore
  split
  · rename_i m hl
    unfold evStn
    split
    · rename_i o' off cs ha hx
      split
      · rename_i fz xs hg
        rw [beq_eq, ble_eq, ble_eq, lenL_eq, lenL_eq]
        refine ob_cond fun c0 => ob_cond fun c1 => ob_cond fun c2 => ob_cond fun c3 => ?_
        have c1 := of_decide_eq_true c1
        have c2 := of_decide_eq_true c2
        have c3 := of_decide_eq_true c3
        refine ob_mk fun o ho w0 ι ρ w hb hρ => ?_
        have h1 := hρ a (by simp [Op.operands])
        have h2 := hρ x (by simp [Op.operands])
        rw [ha] at h1
        rw [hx] at h2
        obtain ⟨pl, e1, h1⟩ := h1
        obtain ⟨us, e2, hu⟩ := h2
        obtain ⟨vals, e, fr, g1, g2, g3, g4, g5, g6⟩ := hb.obj _ _ _ e1 hg
        have hul := hu.length
        have hone : ∀ v ∈ us, v.oneCell' = true := fun v hv => by
          obtain ⟨i, hi, rfl⟩ := List.getElem_of_mem hv
          obtain ⟨y, hy⟩ : ∃ y, cs[i]? = some y := ⟨cs[i], by simp⟩
          obtain ⟨u, a1, a2⟩ := hu.get hy
          have := (one_cell a2 (allL_spec c0 i y hy)).1
          rw [List.getElem?_eq_getElem hi] at a1; cases a1; exact this
        obtain ⟨w', cur', r1, r2, r3, r4, r5, r6, r7⟩ := run_storeCells (P := P) (b := pl.b) (o := pl.m + off) (e := e) (fr := fr) us 0 vals w g1 (by omega) (fun off' b1 b2 => g5 off' (by omega) (by omega)) hone
        have hsz := (ldT_agg (hT.ld _ _ hl) w).2
        have hrun : (execOp ρ o).run P w = .ok .skip w' := by
          have hl' : us.length = m := by omega
          simp [execOp, ho, h1, e2, Instr.storeAt, Instr.sureAddr, storeVar, Value.cells, hsz, r1, hl']
        rw [hrun]
        refine ⟨rfl, ι, Ext.refl _, hb.turn e1 ⟨_, hg, by intro e; cases e⟩ r2 r3 _ ⟨cur', e, fr, r5, by omega, by rw [blitL_eq]; simp; omega, fun i y hy => ?_, (by rw [r6]; exact g5), fun h => let ⟨q1, q2, q3⟩ := g6 h; ⟨q1, q2, by rw [blitL_eq]; simp; omega⟩⟩⟩
        rw [blitL_eq, List.getElem?_append] at hy
        rw [r7]
        have lt1 : (xs.take off).length = off := by simp; omega
        rw [lt1] at hy
        split at hy
        · rename_i hi
          rw [List.getElem?_take_of_lt hi] at hy
          rw [if_neg (by omega)]
          exact g4 i y hy
        · rename_i hi
          rw [List.getElem?_append] at hy
          split at hy
          · rename_i hi2
            rw [if_pos (by omega)]
            obtain ⟨u, a1, a2⟩ := hu.get hy
            exact ⟨u, by rw [← a1]; congr 1; omega, a2, hone u (List.mem_of_getElem? a1)⟩
          · rename_i hi2
            rw [List.getElem?_drop] at hy
            rw [if_neg (by omega)]
            have := g4 _ y hy
            rwa [show off + cs.length + (i - off - cs.length) = i by omega] at this
      · exact ob_none
    · exact ob_none
  · rename_i hl
    unfold evSt1
    split
    · rename_i o' off ha
      split
      · rename_i fz xs hg
        rw [ble_eq, blt_eq, lenL_eq]
        refine ob_cond fun c0 => ob_cond fun c2 => ob_cond fun c3 => ?_
        have c2 := of_decide_eq_true c2
        have c3 := of_decide_eq_true c3
        refine ob_mk fun o ho w0 ι ρ w hb hρ => ?_
        have h1 := hρ a (by simp [Op.operands])
        have h2 := hρ x (by simp [Op.operands])
        rw [ha] at h1
        obtain ⟨pl, e1, h1⟩ := h1
        obtain ⟨o1, o2⟩ := one_cell h2 c0
        obtain ⟨vals, e, fr, g1, g2, g3, g4, g5, g6⟩ := hb.obj _ _ _ e1 hg
        obtain ⟨w', cur', r1, r2, r3, r4, r5, r6, r7⟩ := run_storeCells (P := P) (b := pl.b) (o := pl.m + off) (e := e) (fr := fr) [ρ x] 0 vals w g1 (by simp; omega) (fun off' b1 b2 => g5 off' (by simp at b2; omega) (by omega)) (by simpa using o1)
        have hsz := (ldT_one (hT.ld _ _ hl) w).2
        have hrun : (execOp ρ o).run P w = .ok .skip w' := by
          simp [execOp, ho, h1, Instr.storeAt, Instr.sureAddr, storeVar, o2, hsz, r1]
        rw [hrun]
        refine ⟨rfl, ι, Ext.refl _, hb.turn e1 ⟨_, hg, by intro e; cases e⟩ r2 r3 _ ⟨cur', e, fr, r5, by omega, by rw [setL_eq]; simp; omega, fun i y hy => ?_, (by rw [r6]; exact g5), fun h => let ⟨q1, q2, q3⟩ := g6 h; ⟨q1, q2, by rw [setL_eq, List.length_set]; omega⟩⟩⟩
        rw [setL_eq, List.getElem?_set] at hy
        rw [r7]
        split at hy
        · rename_i hi
          subst hi
          cases hy
          exact ⟨ρ x, by rw [if_pos (by simp)]; simp, h2, o1⟩
        · rename_i hi
          rw [if_neg (by simp; omega)]
          exact g4 i y hy
      · rename_i fz l b hg
        split
        · rename_i c hx
          rw [ble_eq, blt_eq, blt_eq]
          refine ob_cond fun c0 => ob_cond fun c2 => ob_cond fun c3 => ?_
          have c0 := of_decide_eq_true c0
          have c2 := of_decide_eq_true c2
          have c3 := of_decide_eq_true c3
          rw [fN_eq]
          refine ob_mk fun o ho w0 ι ρ w hb hρ => ?_
          have h1 := hρ a (by simp [Op.operands])
          have h2 := hρ x (by simp [Op.operands])
          rw [ha] at h1
          rw [hx] at h2
          have h2 : ρ x = .int .u8 (c : Int) := h2
          obtain ⟨pl, e1, h1⟩ := h1
          obtain ⟨vals, e, fr, bs, g1, g2, g3, g4, g5, g6, g7, g8⟩ := hb.obj _ _ _ e1 hg
          obtain ⟨w', cur', r1, r2, r3, r4, r5, r6, r7⟩ := run_storeCells (P := P) (b := pl.b) (o := pl.m + off) (e := e) (fr := fr) [ρ x] 0 vals w g1 (by simp; omega) (fun off' b1 b2 => g7 off' (by simp at b2; omega) (by omega)) (by rw [h2]; simp [Value.oneCell'])
          have hsz := (ldT_one (hT.ld _ _ hl) w).2
          have hrun : (execOp ρ o).run P w = .ok .skip w' := by
            rw [h2] at r1
            simp [execOp, ho, h1, h2, Instr.storeAt, Instr.sureAddr, storeVar, Value.cells, hsz, r1]
          rw [hrun]
          have hbn : (UInt8.ofNat c).toNat = c := by simp; omega
          have hs := setB_spec bs off (UInt8.ofNat c) (by omega)
          rw [g4, g5, hbn] at hs
          refine ⟨rfl, ι, Ext.refl _, hb.turn e1 ⟨_, hg, by intro e; cases e⟩ r2 r3 _ ⟨cur', e, fr, bs.set off (UInt8.ofNat c), r5, by omega, g3, by simpa using g4, hs.symm, fun i y hy => ?_, (by rw [r6]; exact g7), g8⟩⟩
          rw [List.getElem?_set] at hy
          rw [r7]
          split at hy
          · rename_i hi
            subst hi
            rw [if_pos (by omega)] at hy
            cases hy
            rw [if_pos (by simp), hbn, h2]; simp
          · rename_i hi
            rw [if_neg (by simp; omega)]
            exact g6 i y hy
        · exact ob_none
      · exact ob_none
    · exact ob_none
  · exact ob_none
end
end Go.Proofs.Nw.X
end
section
/- X7: new things: variables, structs, slices, functions. -/
open Go Go.RowKit
set_option linter.unusedVariables false
set_option linter.unusedSimpArgs false
namespace Go.Proofs.Nw.X
open Go.Proofs.Nw.K
noncomputable def const1 : Value → V
  | .int k n => .i k n
  | .bool b => .b b
  | .string s => .s (lenL s.data.toList) (valB s.data.toList)
  | .float .f64 b => .f64 b
  | .complex .f64 a b => .c64 a b
  | .float _ _ => .fl
  | .complex _ _ _ => .fl
  | .pointer none => .np
  | .slice none 0 0 => .ns
  | .map none => .nm
  | .nilFunc => .nf
  | _ => .j
noncomputable def constV : Value → V
  | .agg cs => .ag (mapL const1 cs.toList)
  | v => const1 v
theorem const1_ok (ι : Io) (v : Value) : RV ι (const1 v) v := by
  unfold const1
  split
  case h_3 s => exact ⟨s, rfl, by rw [lenL_eq], rfl⟩
  case h_6 k b _ => exact .inl ⟨k, b, rfl⟩
  case h_7 k a b _ => exact .inr ⟨k, a, b, rfl⟩
  all_goals first | rfl | trivial
theorem constV_ok (ι : Io) (v : Value) : RV ι (constV v) v := by
  unfold constV
  split
  · rename_i cs
    refine ⟨cs.toList, by simp, RVs_iff.2 ⟨by rw [mapL_eq]; simp, fun i x hx => ?_⟩⟩
    rw [mapL_eq, List.getElem?_map, Option.map_eq_some_iff] at hx
    obtain ⟨u, hu, rfl⟩ := hx
    exact ⟨u, hu, const1_ok ι u⟩
  · exact const1_ok ι v
noncomputable def zV : D → V
  | .sc v => const1 v
  | .nils => .ns
  | _ => .j
theorem zV_ok {σ : Sig} {ι : Io} {u : Value} {d : D} (h : Rep σ u d) : RV ι (zV d) u := by
  cases h <;> first | exact const1_ok ι _ | rfl | trivial
noncomputable def zeroV (zs : List D) : List V := mapL zV zs
theorem zeroV_ok {ι : Io} {us : List Value} {zs : List D} (h : ∀ σ, RepL σ us zs) : RVs ι (zeroV zs) us := by
  have h := h ⟨fun _ _ => none, fun _ => none⟩
  refine RVs_iff.2 ⟨by unfold zeroV; rw [mapL_eq]; simp [h.1], fun i x hx => ?_⟩
  unfold zeroV at hx
  rw [mapL_eq, List.getElem?_map, Option.map_eq_some_iff] at hx
  obtain ⟨d, hd, rfl⟩ := hx
  obtain ⟨u, hu, hr⟩ := h.get hd
  exact ⟨u, hu, zV_ok hr⟩
noncomputable def evNew (ty : Nat) (cs : List V) (h : H) (n : Id) (k : KV) : R :=
  cond (allL cs) (match nxt n with | some n' => k (.p n 0) (hset (.cs ty 0 cs) n h) n' | none => none) none
theorem cells_one {ι : Io} {cs : List V} {us : List Value} (hr : RVs ι cs us) (ha : allL cs = true) : ∀ v ∈ us, v.oneCell' = true := fun v hv => by
  obtain ⟨i, hi, rfl⟩ := List.getElem_of_mem hv
  have hl := hr.length
  obtain ⟨u, a1, a2⟩ := hr.get (i := i) (x := cs[i]'(by omega)) (by simp)
  have := (one_cell a2 (allL_spec ha i _ (by simp))).1
  rw [List.getElem?_eq_getElem hi] at a1; cases a1; exact this
section
variable {P : Program} {T : Tab} (hT : TabOk P T) {E : Operand → V} {h : H} {n : Id} {k : KV}
theorem new_cells {w0 : Fx} {ι : Io} {w : World} (hb : HR w0 ι h n w) {n' : Id} (hn : nxt n = some n') (vals : Array Value) (e : TypeId) (fr : Nat × Nat) (ty fz : Nat) (cs : List V) (hty : ty ≠ 0 → e + 1 = ty ∧ vals.size = cs.length) (hr : RVs ι cs (vals.toList.take cs.length)) (hl : cs.length ≤ vals.size)
    (h1 : ∀ v ∈ vals.toList.take cs.length, v.oneCell' = true) (hfr : ∀ off, off < vals.size → fz ≤ off → ¬ (fr.1 ≤ off ∧ off < fr.2)) {w' : World} (hg : w.grownBy w' none) (hd : w.drawn ≤ w'.drawn) (hw : w'.heap[w.heap.size]? = some (.cells vals e fr)) :
    Ext ι (upI ι n ⟨w.heap.size, 0, vals.size⟩) ∧ HR w0 (upI ι n ⟨w.heap.size, 0, vals.size⟩) (hset (.cs ty fz cs) n h) n' w' := by
  refine ⟨hb.ext _, hb.alloc hn hg hd _ _ rfl (Array.getElem?_eq_some_iff.1 hw).1 ⟨vals, e, fr, hw, rfl, by simpa using hl, fun i x hx => ?_, by simpa using hfr, fun h => let ⟨a, b⟩ := hty h; ⟨a, rfl, b⟩⟩⟩
  obtain ⟨u, a1, a2⟩ := hr.get hx
  have hi : i < cs.length := (List.getElem?_eq_some_iff.1 hx).1
  have a3 := h1 u (List.mem_of_getElem? a1)
  rw [List.getElem?_take_of_lt hi] at a1
  exact ⟨u, by simpa using a1, a2.mono (hb.ext _), a3⟩
theorem evNew_ok {op : Op} {ty : Nat} {cs : List V} (H : ∀ (o : Oper), o.op = op → ∀ w0 ι ρ w, HR w0 ι h n w → (∀ x ∈ op.operands, RV ι (E x) (ρ x)) →
    ∃ (vals : Array Value) (e : TypeId), (ty ≠ 0 → e + 1 = ty) ∧ (execOp ρ o).run P w = .ok (.value (.pointer (some ⟨w.heap.size, 0, none⟩))) (w.alloc (.cells vals e)) ∧ RVs ι cs vals.toList) : Ob P op E h n k (evNew ty cs h n k) := by
  unfold evNew
  refine ob_cond fun ha => ?_
  split
  · rename_i n' hn
    refine ob_mk fun o ho w0 ι ρ w hb hρ => ?_
    obtain ⟨vals, e, hte, h1, h2⟩ := H o ho w0 ι ρ w hb hρ
    rw [h1]
    have hl : cs.length = vals.size := by have := h2.length; simpa using this.symm
    have ht : vals.toList.take cs.length = vals.toList := by rw [hl, ← Array.length_toList, List.take_length]
    obtain ⟨h3, h4⟩ := new_cells hb hn vals e (0, 0) ty 0 cs (fun h => ⟨hte h, hl.symm⟩) (by rw [ht]; exact h2) (by omega) (by rw [ht]; exact cells_one h2 ha) (fun off _ _ => by simp) (World.grownBy_alloc w _ none) (Nat.le_refl _) (heap_alloc_new w _)
    exact ⟨_, h3, h4, ⟨w.heap.size, 0, vals.size⟩, upI_same _ _ _, rfl⟩
  · exact ob_none
noncomputable def evAlloc (T : Tab) (t : TypeId) (h : H) (n : Id) (k : KV) : R := match T.zd t with | some zs => evNew (Nat.succ t) (zeroV zs) h n k | none => none
include hT in
theorem alloc_ok (t : TypeId) : Ob P (.alloc t) E h n k (evAlloc T t h n k) := by
  unfold evAlloc
  split
  · rename_i zs hz
    obtain ⟨i, z, hi, hz', hrz⟩ := zeroD_spec (hT.zd _ _ hz)
    exact evNew_ok fun o ho w0 ι ρ w hb hρ => ⟨z.cells, t, fun _ => rfl, by simp [execOp, ho, Instr.alloc, zeroValue, typeInfo, hi, hz', newVar, newRow], zeroV_ok hrz⟩
  · exact ob_none
noncomputable def evBox (x : V) (h : H) (n : Id) (k : KV) : R := match x with | .ag cs => evNew 0 cs h n k | x => evNew 0 [x] h n k
theorem box_ok (t : TypeId) (x : Operand) : Ob P (.box t x) E h n k (evBox (E x) h n k) := by
  unfold evBox
  split
  · rename_i cs hx
    refine evNew_ok fun o ho w0 ι ρ w hb hρ => ?_
    have h1 := hρ x (by simp [Op.operands])
    rw [hx] at h1
    obtain ⟨us, e, hr⟩ := h1
    exact ⟨us.toArray, t, fun h => absurd rfl h, by simp [execOp, ho, e, Instr.box, newVar, newRow, Value.cells], by simpa using hr⟩
  · rename_i x' hx
    by_cases ha : one (E x) = true
    · refine evNew_ok fun o ho w0 ι ρ w hb hρ => ?_
      have h1 := hρ x (by simp [Op.operands])
      obtain ⟨o1, o2⟩ := one_cell h1 ha
      exact ⟨#[ρ x], t, fun h => absurd rfl h, by simp [execOp, ho, Instr.box, newVar, newRow, o2], ⟨_, _, rfl, h1, rfl⟩⟩
    · have : allL [E x] = false := by
        show cond (one (E x)) true false = false
        cases hc : one (E x) with
        | true => exact absurd hc ha
        | false => rfl
      unfold evNew
      rw [this]; exact ob_none
noncomputable def fillP (size : Nat) (x : V) (off : Nat) (z : List V) (kk : List V → R) : R :=
  cond (Nat.beq size 1) (cond (one x) (cond (Nat.blt off (lenL z)) (kk (setL x off z)) none) none)
    (match x with | .ag cs => cond (Nat.beq (lenL cs) size) (cond (Nat.ble (off + size) (lenL z)) (kk (blitL cs off z)) none) none | _ => none)
noncomputable def fillV (place : Nat → Option (Nat × Nat)) (E : Operand → V) (parts : List (Nat × Operand)) : List V → (List V → R) → R :=
  List.rec (motive := fun _ => List V → (List V → R) → R) (fun z kk => kk z) (fun p _ ih z kk => Prod.casesOn p fun i x => match place i with | some (off, size) => fillP size (E x) off z fun z => ih z kk | none => none) parts
theorem fillP_ok {size : Nat} {x : V} {off : Nat} {z : List V} {kk : List V → R} {r : V} (hr : fillP size x off z kk = some r) : ∃ z', kk z' = some r ∧ ∀ ι u (cells : Array Value), RV ι x u → RVs ι z cells.toList →
    u.cells.size = size ∧ off + size ≤ cells.size ∧ RVs ι z' (cells.toList.take off ++ u.cells.toList ++ cells.toList.drop (off + size)) := by
  unfold fillP at hr
  rw [beq_eq] at hr
  by_cases h1 : size = 1
  · subst h1
    simp only [decide_true, cond_true] at hr
    cases ho : one x with
    | false => rw [ho] at hr; cases hr
    | true =>
      rw [ho, blt_eq, lenL_eq] at hr
      by_cases hl : off < z.length
      · simp only [hl, decide_true, cond_true] at hr
        refine ⟨_, hr, fun ι u cells hx hz => ?_⟩
        obtain ⟨o1, o2⟩ := one_cell hx ho
        have hzl : cells.size = z.length := by simpa using hz.length
        refine ⟨by rw [o2]; rfl, by omega, ?_⟩
        have := hz.set off hx
        rw [setL_eq]
        have e : cells.toList.set off u = cells.toList.take off ++ u :: cells.toList.drop (off + 1) := by rw [List.set_eq_take_append_cons_drop, if_pos (by simp; omega)]
        rw [e] at this
        rw [o2]; simpa using this
      · simp only [hl, decide_false, cond_false] at hr; cases hr
  · simp only [h1, decide_false, cond_false] at hr
    split at hr
    · rename_i cs
      rw [beq_eq, ble_eq, lenL_eq, lenL_eq] at hr
      by_cases h2 : cs.length = size
      · by_cases h3 : off + size ≤ z.length
        · simp only [h2, h3, decide_true, cond_true] at hr
          refine ⟨_, hr, fun ι u cells hx hz => ?_⟩
          obtain ⟨us, e, hu⟩ := hx
          have hzl : cells.size = z.length := by simpa using hz.length
          have hul := hu.length
          subst e
          refine ⟨by simp [Value.cells]; omega, by omega, ?_⟩
          rw [blitL_eq]
          have := (hz.take off).app (hu.app (hz.drop (off + cs.length)))
          simpa [Value.cells, h2] using this
        · simp only [h2, h3, decide_true, decide_false, cond_true, cond_false] at hr; cases hr
      · simp only [h2, decide_false, cond_false] at hr; cases hr
    · cases hr
theorem fillV_ok {place : Nat → Option (Nat × Nat)} : ∀ {parts : List (Nat × Operand)} {z : List V} {kk : List V → R} {r : V}, fillV place E parts z kk = some r → ∃ z', kk z' = some r ∧ ∀ ι (ρ : Operand → Value) (cells : Array Value),
    (∀ x ∈ parts.map (·.2), RV ι (E x) (ρ x)) → RVs ι z cells.toList → ∃ cells', Instr.fill place cells (parts.map fun p => (p.1, ρ p.2)) = some cells' ∧ RVs ι z' cells'.toList
  | [], z, kk, r, hr => ⟨z, hr, fun ι ρ cells _ hz => ⟨cells, rfl, hz⟩⟩
  | (i, x) :: parts, z, kk, r, hr => by
    have hr' : (match place i with | some (off, size) => fillP size (E x) off z fun z => fillV place E parts z kk | none => none) = some r := hr
    split at hr'
    · rename_i off size hp
      obtain ⟨z1, h1, h2⟩ := fillP_ok hr'
      obtain ⟨z2, h3, h4⟩ := fillV_ok h1
      refine ⟨z2, h3, fun ι ρ cells hx hz => ?_⟩
      obtain ⟨a1, a2, a3⟩ := h2 ι (ρ x) cells (hx x (by simp)) hz
      have hstep := fill_step off (ρ x).cells.toList cells (by simp; omega)
      obtain ⟨cells', b1, b2⟩ := h4 ι ρ (cells.toList.take off ++ (ρ x).cells.toList ++ cells.toList.drop (off + size)).toArray (fun y hy => hx y (by simp at hy ⊢; exact .inr hy)) (by simpa using a3)
      refine ⟨cells', ?_, b2⟩
      simp only [List.map_cons]
      unfold Instr.fill
      rw [hp]
      simp only []
      rw [if_neg (by simp; omega)]
      have hsz : (ρ x).cells.toList.length = size := by simpa using a1
      rw [hsz] at hstep
      simp only [Array.toArray_toList] at hstep
      rw [← b1]
      congr 1
    · cases hr'
noncomputable def prt (E : Operand → V) (parts : List (Nat × Operand)) : List (Nat × V) := mapL (fun p => (p.1, E p.2)) parts
noncomputable def fillW (place : Nat → Option (Nat × Nat)) (vs : List (Nat × V)) : List V → (List V → R) → R :=
  List.rec (motive := fun _ => List V → (List V → R) → R) (fun z kk => kk z) (fun p _ ih z kk => match place p.1 with | some (off, size) => fillP size p.2 off z fun z => ih z kk | none => none) vs
theorem fillW_eq (place : Nat → Option (Nat × Nat)) (E : Operand → V) : ∀ (parts : List (Nat × Operand)) (z : List V) (kk : List V → R), fillW place (prt E parts) z kk = fillV place E parts z kk
  | [], z, kk => rfl
  | (i, x) :: parts, z, kk => by
    show (match place i with | some (off, size) => fillP size (E x) off z fun z => fillW place (prt E parts) z kk | none => none) = (match place i with | some (off, size) => fillP size (E x) off z fun z => fillV place E parts z kk | none => none)
    have : (fun z => fillW place (prt E parts) z kk) = fun z => fillV place E parts z kk := funext fun z => fillW_eq place E parts z kk
    rw [this]
noncomputable def evBuild (T : Tab) (t : TypeId) (vs : List (Nat × V)) (kk : KP) : R :=
  match T.zd t, T.bt t with
  | some zs, some ps => fillW (fun i => getL i ps) vs (zeroV zs) fun z => kk (.ag z)
  | _, _ => none
include hT in
theorem build_ok (t : TypeId) (parts : Array (Nat × Operand)) : Ob P (.build t parts) E h n k (evBuild T t (prt E parts.toList) fun v => k v h n) := by
  unfold evBuild
  simp only [fillW_eq]
  split
  · rename_i zs ps hz hp
    obtain ⟨i, z, hi, hz', hrz⟩ := zeroD_spec (hT.zd _ _ hz)
    have hp := hT.bt _ _ hp
    unfold buildT at hp
    split at hp <;> try cases hp
    rename_i fs hu
    refine fun r hr => ?_
    obtain ⟨z', h1, h2⟩ := fillV_ok hr
    refine ⟨_, h, n, h1, xop_pure fun o ho w0 ι ρ w hb hρ => ?_⟩
    obtain ⟨cells', h3, h4⟩ := h2 ι ρ z.cells (fun x hx => hρ x (by simpa [Op.operands] using hx)) (zeroV_ok hrz)
    refine ⟨.agg cells', ?_, cells'.toList, by simp, h4⟩
    have hm := fieldPlaces_run hp w
    have hm' : (fs.mapM (fun f => do pure (f.offset, ← sizeOf f.type) : Field → Sem (Nat × Nat))).run P w = .ok ps.toArray w := by
      rw [Array.mapM_eq_mapM_toList, Sem.run_map, hm]; rfl
    have hpp : (parts.map fun p => (p.1, ρ p.2)).toList = parts.toList.map fun p => (p.1, ρ p.2) := by simp
    have hpl : (fun x => ps.toArray[x]?) = fun i => getL i ps := by funext x; rw [getL_eq]; simp
    simp only [execOp, ho, Instr.build, zeroValue, typeInfo, Sem.run_bind, run_program, Result.andThen_ok, hi, Sem.run_pure, hz', run_underlying hu, hm']
    have h1' : Instr.fill (fun x => ps.toArray[x]?) z.cells (parts.map fun p => (p.1, ρ p.2)).toList = some cells' := by rw [hpp, hpl]; exact h3
    simp only [h1', Sem.run_pure, Result.andThen_ok]
  · exact ob_none
noncomputable def repLL (z : List V) (n : Nat) : List V := Nat.rec [] (fun _ ih => appL z ih) n
theorem repLL_len (z : List V) : ∀ n, (repLL z n).length = n * z.length
  | 0 => by show ([] : List V).length = 0 * _; simp
  | n + 1 => by show (appL z (repLL z n)).length = _; rw [appL_eq, List.length_append, repLL_len z n, Nat.add_mul]; omega
theorem repLL_get (z : List V) (hz : 0 < z.length) : ∀ n (i : Nat) x, (repLL z n)[i]? = some x → z[i % z.length]? = some x
  | 0, i, x, h => by have h : ([] : List V)[i]? = some x := h; simp at h
  | n + 1, i, x, h => by
    have h : (appL z (repLL z n))[i]? = some x := h
    rw [appL_eq, List.getElem?_append] at h
    split at h
    · rename_i hi; rw [Nat.mod_eq_of_lt hi]; exact h
    · rename_i hi
      have := repLL_get z hz n _ x h
      rw [← this]; congr 1
      rw [← Nat.mod_eq_sub_mod (by omega)]
theorem repLL_ok {ι : Io} {zs : List V} {zc : Array Value} (hr : RVs ι zs zc.toList) (hp : 0 < zs.length) (n : Nat) : RVs ι (repLL zs n) ((Array.range (n * zs.length)).map (fun x => zc[x % zc.size]!)).toList := by
  have hl : zc.size = zs.length := by simpa using hr.length
  refine RVs_iff.2 ⟨by simp [repLL_len], fun i x hx => ?_⟩
  have hi : i < n * zs.length := by rw [← repLL_len]; exact (List.getElem?_eq_some_iff.1 hx).1
  have := repLL_get zs hp n i x hx
  obtain ⟨u, a1, a2⟩ := hr.get this
  refine ⟨u, ?_, a2⟩
  have hlt : i % zs.length < zc.size := by rw [hl]; exact Nat.mod_lt _ hp
  simp only [Array.toList_map, Array.toList_range, List.getElem?_map, List.getElem?_range hi, Option.map_some, hl]
  rw [getElem!_pos zc _ hlt]
  simpa [hlt] using a1
noncomputable def packV (l : List V) : Option Nat → Option Nat := List.rec (fun a => a) (fun v _ ih a => match a, v with | some a, .i .u8 (.ofNat c) => cond (Nat.blt c 256) (ih (some (a * 256 + c))) none | _, _ => none) l
theorem packV_cons (v : V) (l : List V) (a : Nat) : packV (v :: l) (some a) = (match some a, v with | some a, .i .u8 (.ofNat c) => cond (Nat.blt c 256) (packV l (some (a * 256 + c))) none | _, _ => none) := rfl
theorem packV_ok {ι : Io} : ∀ {l : List V} {a r : Nat} {us : List Value}, packV l (some a) = some r → RVs ι l us → ∃ bs : List UInt8, bs.length = l.length ∧ r = a * 256 ^ l.length + valB bs ∧ us = bs.map fun b => .int .u8 (b.toNat : Int)
  | [], a, r, us, h, hr => by
    cases h
    have : us = [] := hr
    subst this
    exact ⟨[], rfl, by simp [valB], rfl⟩
  | v :: l, a, r, us, h, hr => by
    have h' := h
    rw [packV_cons] at h'
    split at h'
    · rename_i a' c ha
      cases ha
      rw [blt_eq] at h'
      by_cases hc : c < 256
      · simp only [hc, decide_true, cond_true] at h'
        obtain ⟨u, us, rfl, hu, hr⟩ := hr
        have hu : u = .int .u8 (c : Int) := hu
        subst hu
        obtain ⟨bs, e1, e2, e3⟩ := packV_ok h' hr
        have hbn : (UInt8.ofNat c).toNat = c := by simp; omega
        refine ⟨UInt8.ofNat c :: bs, by simp [e1], ?_, by simp [e3, hbn]⟩
        rw [e2]
        simp only [List.length_cons, valB, hbn, e1, Nat.pow_succ, Nat.add_mul]
        rw [Nat.mul_assoc a, Nat.mul_comm 256, Nat.add_assoc]
      · simp only [hc, decide_false, cond_false] at h'; cases h'
    · cases h'
noncomputable def evBuildSl (T : Tab) (t : TypeId) (len : Nat) (vs : List (Nat × V)) (h : H) (n : Id) (k : KV) : R :=
  match T.el t with
  | some (e, sz) => match T.zd e with
    | some zs => cond (Nat.beq (lenL zs) sz) (cond (Nat.blt 0 sz) (cond (Nat.ble (len * sz) 16777216) (fillW (fun i => some (i * sz, sz)) vs (repLL (zeroV zs) len) fun z =>
        cond (allL z) (match nxt n with
          | some n' => (match T.bb t with
            | some _ => (match packV z (some 0) with | some x => fN x fun x => k (.sl n 1 0 len) (hset (.bs 0 0 len x) n h) n' | none => none)
            | none => k (.sl n sz 0 len) (hset (.cs 0 0 z) n h) n')
          | none => none) none) none) none) none
    | none => none
  | none => none
include hT in
theorem buildSl_ok (t : TypeId) (len : Nat) (parts : Array (Nat × Operand)) : Ob P (.buildSlice t len parts) E h n k (evBuildSl T t len (prt E parts.toList) h n k) := by
  unfold evBuildSl
  simp only [fillW_eq]
  split
  · rename_i e sz hel
    split
    · rename_i zs hz
      rw [beq_eq, blt_eq, ble_eq, lenL_eq]
      refine ob_cond fun c1 => ob_cond fun c2 => ob_cond fun c3 => ?_
      have c1 := of_decide_eq_true c1
      have c2 := of_decide_eq_true c2
      have c3 := of_decide_eq_true c3
      obtain ⟨i, zv, hi, hz', hrz⟩ := zeroD_spec (hT.zd _ _ hz)
      obtain ⟨hu, i', hi', hsz⟩ := elT_spec (hT.el _ _ hel)
      rw [hi] at hi'
      cases hi'
      have hzl : (zeroV zs).length = sz := by unfold zeroV; rw [mapL_eq]; simpa using c1
      refine fun r hr => ?_
      obtain ⟨z, h1, h2⟩ := fillV_ok hr
      cases ha : allL z with
      | false => rw [ha] at h1; cases h1
      | true =>
        rw [ha] at h1
        simp only [cond_true] at h1
        split at h1
        · rename_i n' hn
          have hrun : ∀ (o : Oper), o.op = .buildSlice t len parts → ∀ w0 ι ρ w, HR w0 ι h n w → (∀ x ∈ (Op.buildSlice t len parts).operands, RV ι (E x) (ρ x)) →
              ∃ cells' : Array Value, (execOp ρ o).run P w = .ok (.value (.slice (some ⟨w.heap.size, 0, none⟩) len len)) (w.alloc (.cells cells' e)) ∧ RVs ι z cells'.toList ∧ cells'.size = len * sz := by
            intro o ho w0 ι ρ w hb hρ
            have hzv := repLL_ok (ι := ι) (zeroV_ok hrz) (by omega) len
            rw [hzl] at hzv
            obtain ⟨cells', h3, h4⟩ := h2 ι ρ _ (fun x hx => hρ x (by simpa [Op.operands] using hx)) hzv
            have hpp : (parts.map fun p => (p.1, ρ p.2)).toList = parts.toList.map fun p => (p.1, ρ p.2) := by simp
            have h1' : Instr.fill (fun i => some (i * sz, sz)) ((Array.range (len * sz)).map (fun x => zv.cells[x % zv.cells.size]!)) (parts.map fun p => (p.1, ρ p.2)).toList = some cells' := by rw [hpp]; exact h3
            refine ⟨cells', ?_, h4, ?_⟩
            · have hm : ¬ (len * sz > 2 ^ 24) := by omega
              by_cases h0 : len * sz = 0
              · have e0 : ∀ f : Nat → Value, Array.map f (Array.range 0) = #[] := fun f => Array.eq_empty_of_size_eq_zero (by simp)
                rw [h0, e0] at h1'
                simp [execOp, ho, Instr.buildSlice, run_underlying hu, sizeOf, typeInfo, hi, newRow, hsz, h0, e0]
                simp at h1'
                simp [h1']
              · simp only [execOp, ho, Instr.buildSlice, Sem.run_bind, run_underlying hu, Result.andThen_ok, sizeOf, typeInfo, run_program, hi, Sem.run_pure, hsz, hm, if_false, h0, zeroValue, hz', h1']
                simp [newRow]
            · have := h4.length
              have hz2 : z.length = len * sz := by
                have hf : ∀ (vp : List (Nat × Value)) (cs cs' : Array Value), Instr.fill (fun i => some (i * sz, sz)) cs vp = some cs' → cs'.size = cs.size := by
                  intro vp
                  induction vp with
                  | nil => intro cs cs' hf; cases hf; rfl
                  | cons p vp ih =>
                    intro cs cs' hf
                    unfold Instr.fill at hf
                    simp only at hf
                    split at hf
                    · cases hf
                    · rename_i hc
                      simp at hc
                      have := ih _ _ hf
                      have hstep := fill_step (p.1 * sz) p.2.cells.toList cs (by simp; omega)
                      simp only [Array.toArray_toList] at hstep
                      rw [this, hstep]; simp; omega
                have := hf _ _ _ h3
                have hl := h4.length
                simp at this hl; omega
              simp at this; omega
          split at h1
          · rename_i e' hbb
            split at h1
            · rename_i x hx
              rw [fN_eq] at h1
              refine ⟨_, _, _, h1, fun o ho w0 ι ρ w hb hρ => ?_⟩
              obtain ⟨cells', r1, r2, r3⟩ := hrun o ho w0 ι ρ w hb hρ
              rw [r1]
              have hbt := byteT_spec (hT.bb _ _ hbb)
              obtain ⟨hu2, i2, hi2, _, hs2, _⟩ := hbt
              rw [hu] at hu2
              cases hu2
              rw [hi] at hi2
              cases hi2
              have e1 : sz = 1 := by omega
              subst e1
              obtain ⟨bs, b1, b2, b3⟩ := packV_ok hx r2
              have hzl2 : z.length = len := by have := r2.length; simp at this; omega
              refine ⟨_, hb.ext ⟨w.heap.size, 0, cells'.size⟩, hb.alloc hn (World.grownBy_alloc w _ none) (Nat.le_refl _) _ _ rfl (by simp) ⟨cells', _, (0, 0), bs, heap_alloc_new w _, rfl, by simp; omega, by omega, by simp [b2], fun i b hib => ?_, fun off _ _ => (by simp), fun h => absurd rfl h⟩,
                ⟨w.heap.size, 0, cells'.size⟩, len, upI_same _ _ _, Nat.le_refl _, by simp only [maxLen]; omega, ?_⟩
              · rw [Nat.zero_add, ← Array.getElem?_toList, b3]; simp [hib]
              · by_cases h0 : 0 < len
                · exact .inl ⟨h0, by simp; omega, by simp⟩
                · exact .inr ⟨by omega, _, by rw [show len = 0 by omega]⟩
            · cases h1
          · rename_i hbb
            refine ⟨_, _, _, h1, fun o ho w0 ι ρ w hb hρ => ?_⟩
            obtain ⟨cells', r1, r2, r3⟩ := hrun o ho w0 ι ρ w hb hρ
            rw [r1]
            have hl : z.length = cells'.size := by have := r2.length; simpa using this.symm
            have ht : cells'.toList.take z.length = cells'.toList := by rw [hl, ← Array.length_toList, List.take_length]
            obtain ⟨h3, h4⟩ := new_cells hb hn cells' e (0, 0) 0 0 z (fun h => absurd rfl h) (by rw [ht]; exact r2) (by omega) (by rw [ht]; exact cells_one r2 ha) (fun off _ _ => by simp) (World.grownBy_alloc w _ none) (Nat.le_refl _) (heap_alloc_new w _)
            refine ⟨_, h3, h4, ⟨w.heap.size, 0, cells'.size⟩, len, upI_same _ _ _, Nat.le_refl _, ?_, ?_⟩
            · have : len ≤ len * sz := Nat.le_mul_of_pos_right _ c2
              simp only [maxLen]; omega
            · by_cases h0 : 0 < len
              · exact .inl ⟨h0, by simp; omega, by simp⟩
              · exact .inr ⟨by omega, _, by rw [show len = 0 by omega]⟩
        · cases h1
    · exact ob_none
  · exact ob_none
noncomputable def evMakeFn (E : Operand → V) (f : FuncId) (caps : List Operand) (kk : KP) : R := kk (.fn f (mapL E caps))
theorem makeFn_ok {kk : KP} (f : FuncId) (caps : Array Operand) : Pure P (.makeFunc (.func f) #[] caps) E kk (evMakeFn E f caps.toList kk) :=
  pure_one fun h n o ho w0 ι ρ w hb hρ => ⟨.func (.func f) #[] (caps.map ρ), by simp [execOp, ho, Instr.makeFunc], caps.toList.map ρ, by congr 1; apply Array.ext'; simp, RVs_iff.2 ⟨by rw [mapL_eq]; simp, fun i x hx => by
    rw [mapL_eq, List.getElem?_map, Option.map_eq_some_iff] at hx
    obtain ⟨y, hy, rfl⟩ := hx
    exact ⟨ρ y, by simp only [List.getElem?_map, hy, Option.map_some], hρ y (by simp [Op.operands]; exact Array.mem_toList_iff.1 (List.mem_of_getElem? hy))⟩⟩⟩
end
end Go.Proofs.Nw.X
end
section
/- X8: append; texts to bytes and back. -/
open Go Go.RowKit
set_option linter.unusedVariables false
set_option linter.unusedSimpArgs false
namespace Go.Proofs.Nw.X
open Go.Proofs.Nw.K
structure SrcOk (P : Program) (w : World) (u : TypeId) (sz : Nat) (y : Value) (m : Nat) (news : List Value) : Prop where
  ty : (∃ e, P.underlying u = some (.slice e)) ∨ P.underlying u = some .string
  len : ∀ w', (Builtin.lenOf y).run P w' = .ok m w'
  cells : ∀ w' : World, w'.heap = w.heap → (Builtin.firstCells sz m y).run P w' = .ok news.toArray w'
  hl : news.length = m * sz
  one : ∀ v ∈ news, v.oneCell' = true
section
variable {P : Program} {w : World} {t u ty e : TypeId} {i : TypeInfo} {z : Value} {sz m : Nat} {y : Value} {news : List Value}
theorem run_app_room (S : SrcOk P w u sz y m news) (ht : P.underlying t = some (.slice e)) (hi : P.info? e = some i) (hs : i.size = sz) {a : Addr} {sLen sCap : Nat} {w' : World} (hroom : sLen + m ≤ sCap)
    (hst : (storeCells (a.add (sLen * sz)) news).run P w = .ok () w') : (Builtin.append_ #[t, u] ty #[.slice (some a) sLen sCap, y]).run P w = .ok (.slice (some a) (sLen + m) sCap) w' := by
  have hc := S.cells w rfl
  rcases S.ty with ⟨e', hu⟩ | hu <;> simp [Builtin.append_, run_underlying ht, run_underlying hu, sizeOf, typeInfo, hi, hs, S.len, hroom, hc, hst]
theorem run_app_nil0 (S : SrcOk P w u sz y 0 news) (ht : P.underlying t = some (.slice e)) (hi : P.info? e = some i) (hs : i.size = sz) {A : Option Addr} {sLen sCap : Nat} (hle : sLen ≤ sCap) :
    (Builtin.append_ #[t, u] ty #[.slice A sLen sCap, y]).run P w = .ok (.slice A sLen sCap) w := by
  have hc := S.cells w rfl
  have : news = [] := List.eq_nil_of_length_eq_zero (by have := S.hl; omega)
  subst this
  rcases S.ty with ⟨e', hu⟩ | hu <;> cases A <;> simp [Builtin.append_, run_underlying ht, run_underlying hu, sizeOf, typeInfo, hi, hs, S.len, hle, hc, storeCells]
theorem run_app_grow (S : SrcOk P w u sz y m news) (ht : P.underlying t = some (.slice e)) (hi : P.info? e = some i) (hz : i.zero = some z) (hs : i.size = sz) {A : Option Addr} {sLen sCap : Nat} {olds : List Value} (hlo : olds.length = sLen * sz)
    (holds : olds = [] ∨ ∃ a, A = some a ∧ ∀ (j : Nat) v, olds[j]? = some v → w.cell? (a.add j) = some v) (h0 : sLen = 0 → olds = [])
    (hg : sCap < sLen + m) (h63 : sLen + m ≤ 9223372036854775807) (hfit : Builtin.nextslicecap (sLen + m) sCap * i.bytes ≤ 281474976710656) :
    (Builtin.append_ #[t, u] ty #[.slice A sLen sCap, y]).run P w = .ok (.slice (some ⟨w.heap.size, 0, none⟩) (sLen + m) (grownCap w (sLen + m) sCap e))
      (w.drew.alloc (.cells (olds.toArray ++ news.toArray ++ Builtin.zeroCells z.cells (grownCap w (sLen + m) sCap e - (sLen + m))) e)) := by
  have hn : ¬ (sLen + m ≤ sCap) := by omega
  have h63' : ¬ (9223372036854775807 < ((sLen : Int) + (m : Int))) := by omega
  have h48' : ¬ (281474976710656 < Builtin.nextslicecap (sLen + m) sCap * i.bytes) := by omega
  have hc := S.cells w.drew rfl
  have hfo : (Builtin.firstCells sz sLen (.slice A sLen sCap)).run P w.drew = .ok olds.toArray w.drew := by
    rcases holds with h | ⟨a, rfl, h⟩
    · subst h
      have e0 : sLen * sz = 0 := by simpa using hlo.symm
      cases A with
      | none => simp [Builtin.firstCells]
      | some a => simp [Builtin.firstCells, e0, loadCells, loadCellsFrom]
    · exact run_firstCells_some (P := P) w.drew sz sLen a sLen sCap olds hlo (by simpa using h)
  rcases S.ty with ⟨e', hu⟩ | hu <;>
    (simp [Builtin.append_, run_underlying ht, run_underlying hu, sizeOf, typeInfo, zeroValue, hi, hz, hs, S.len, hn, h63', h48', Question.forced, hc, hfo, newRow, grownCap]
     congr 2
     apply Array.ext'
     simp)
end
noncomputable def srcK (T : Tab) (u : TypeId) (y : V) (sz : Nat) (h : H) (kk : Nat → List V → R) : R :=
  match T.kd u with
  | .slice _ => (match y with
    | .ns => kk 0 []
    | .sl o _ off m => (match hget o h with
      | some (.cs _ _ xs) => cond (Nat.beq (lenL (takeL (m * sz) (dropL off xs))) (m * sz)) (kk m (takeL (m * sz) (dropL off xs))) none
      | _ => none)
    | _ => none)
  | _ => none
noncomputable def srcB (T : Tab) (u : TypeId) (y : V) (h : H) (kk : Nat → Nat → R) : R :=
  match T.kd u, y with
  | .str, .s l a => kk l a
  | .slice _, .ns => kk 0 0
  | .slice _, .sl o _ off m => (match hget o h with
    | some (.bs _ _ l x) => cond (Nat.ble (off + m) l) (kk m (x / 256 ^ (l - (off + m)) % 256 ^ m)) none
    | _ => none)
  | _, _ => none
section
variable {P : Program} {T : Tab} (hT : TabOk P T) {E : Operand → V} {h : H} {n : Id} {k : KV}
include hT in
theorem srcK_ok {u : TypeId} {y : V} {sz : Nat} {kk : Nat → List V → R} {r : V} (hr : srcK T u y sz h kk = some r) : ∃ m ys, kk m ys = some r ∧ ys.length = m * sz ∧ ∀ w0 ι w v, HR w0 ι h n w → RV ι y v →
    ∃ news, SrcOk P w u sz v m news ∧ RVs ι ys news := by
  unfold srcK at hr
  split at hr
  · rename_i e hk
    have hu := hT.kslice _ _ hk
    split at hr
    · refine ⟨0, [], hr, by simp, fun w0 ι w v hb hv => ⟨[], ⟨.inl ⟨_, hu⟩, ?_, ?_, by simp, by simp⟩, rfl⟩⟩
      · have hv : v = _ := hv; subst hv; intro w'; rfl
      · have hv : v = _ := hv; subst hv; intro w' _; simp [Builtin.firstCells]
    · rename_i o sz' off m
      split at hr
      · rename_i fz xs hg
        rw [takeL_eq, dropL_eq, lenL_eq, beq_eq] at hr
        by_cases hc : ((xs.drop off).take (m * sz)).length = m * sz
        · simp only [hc, decide_true, cond_true] at hr
          refine ⟨m, _, hr, hc, fun w0 ι w v hb hv => ?_⟩
          obtain ⟨pl, c, e1, h2, h3, hv⟩ := hv
          obtain ⟨vals, e', fr, g1, g2, g3, g4, g5⟩ := hb.obj _ _ _ e1 hg
          have hle : off + m * sz ≤ xs.length ∨ m * sz = 0 := by simp at hc; omega
          have hnews : ∀ (j : Nat) x, ((vals.toList.drop (pl.m + off)).take (m * sz))[j]? = some x → w.cell? ((⟨pl.b, pl.m + off, none⟩ : Addr).add j) = some x := fun j x hx => by
            rw [List.getElem?_take] at hx
            split at hx
            · rw [K.add_lit, cell_of_row w _ _ vals e' fr g1]; simpa using hx
            · cases hx
          have hrel : RVs ι ((xs.drop off).take (m * sz)) ((vals.toList.drop (pl.m + off)).take (m * sz)) := by
            refine RVs_iff.2 ⟨by simp; omega, fun i x hx => ?_⟩
            have hi : i < m * sz := by have := (List.getElem?_eq_some_iff.1 hx).1; omega
            rw [List.getElem?_take_of_lt hi, List.getElem?_drop] at hx ⊢
            obtain ⟨u', a1, a2, _⟩ := g4 _ x hx
            exact ⟨u', by rw [Array.getElem?_toList, ← a1, Nat.add_assoc], a2⟩
          have hone : ∀ x ∈ (vals.toList.drop (pl.m + off)).take (m * sz), x.oneCell' = true := fun x hx => by
            obtain ⟨i, hi, rfl⟩ := List.getElem_of_mem hx
            have hl := hrel.length
            have hi2 : i < m * sz := by simp at hi; omega
            have hget : ((xs.drop off).take (m * sz))[i]? = some (((xs.drop off).take (m * sz))[i]'(by omega)) := List.getElem?_eq_getElem _
            have hget' := hget
            rw [List.getElem?_take_of_lt hi2, List.getElem?_drop] at hget'
            obtain ⟨u', a1, a2, a3⟩ := g4 _ _ hget'
            have e3 : ((vals.toList.drop (pl.m + off)).take (m * sz))[i]? = some u' := by
              rw [List.getElem?_take_of_lt hi2, List.getElem?_drop, Array.getElem?_toList, ← a1, Nat.add_assoc]
            rw [List.getElem?_eq_getElem hi] at e3
            cases e3; exact a3
          have hlen : ((vals.toList.drop (pl.m + off)).take (m * sz)).length = m * sz := by rw [hrel.length]; exact hc
          refine ⟨_, ⟨.inl ⟨_, hu⟩, fun w' => ?_, fun w' hw' => ?_, hlen, hone⟩, hrel⟩
          · rcases hv with ⟨_, _, rfl⟩ | ⟨hc0, a, rfl⟩
            · rfl
            · have : m = 0 := by omega
              subst this; rfl
          · rcases hv with ⟨_, _, rfl⟩ | ⟨hc0, a, rfl⟩
            · refine run_firstCells_some (P := P) w' sz m _ m c _ hlen fun j x hx => ?_
              have := hnews j x hx
              simpa [World.cell?, hw'] using this
            · have : m = 0 := by omega
              subst this
              simp [Builtin.firstCells, loadCells, loadCellsFrom]
        · simp only [hc, decide_false, cond_false] at hr; cases hr
      · cases hr
    · cases hr
  · cases hr
def byteVs (bs : List UInt8) : List Value := bs.map fun b => .int .u8 (b.toNat : Int)
include hT in
theorem srcB_ok {u : TypeId} {y : V} {kk : Nat → Nat → R} {r : V} (hr : srcB T u y h kk = some r) : ∃ m x, kk m x = some r ∧ ∀ w0 ι w v, HR w0 ι h n w → RV ι y v →
    ∃ bs : List UInt8, SrcOk P w u 1 v m (byteVs bs) ∧ bs.length = m ∧ valB bs = x := by
  have hone : ∀ bs : List UInt8, ∀ v ∈ byteVs bs, v.oneCell' = true := fun bs v hv => by
    obtain ⟨b, _, rfl⟩ := List.mem_map.1 hv; rfl
  unfold srcB at hr
  split at hr
  · rename_i l a hk
    have hu := hT.kstr _ hk
    refine ⟨l, a, hr, fun w0 ι w v hb hv => ?_⟩
    obtain ⟨s, rfl, hs⟩ := hv
    refine ⟨s.data.toList, ⟨.inr hu, fun w' => by simp [Builtin.lenOf, hs.size], fun w' _ => ?_, by simp [byteVs, ← hs.1], hone _⟩, hs.1, hs.2⟩
    have := Lib.run_firstCells_string (P := P) w' 1 s
    rw [hs.size] at this
    rw [this]
    congr 1
  · rename_i e hk
    have hu := hT.kslice _ _ hk
    refine ⟨0, 0, hr, fun w0 ι w v hb hv => ⟨[], ⟨.inl ⟨_, hu⟩, ?_, ?_, by simp [byteVs], hone _⟩, rfl, rfl⟩⟩
    · have hv : v = _ := hv; subst hv; intro w'; rfl
    · have hv : v = _ := hv; subst hv; intro w' _; simp [Builtin.firstCells, byteVs]
  · rename_i e o sz' off m hk
    have hu := hT.kslice _ _ hk
    split at hr
    · rename_i fz l x hg
      rw [ble_eq] at hr
      by_cases hc : off + m ≤ l
      · simp only [hc, decide_true, cond_true] at hr
        refine ⟨m, _, hr, fun w0 ι w v hb hv => ?_⟩
        obtain ⟨pl, c, e1, h2, h3, hv⟩ := hv
        obtain ⟨vals, e', fr, bs, g1, g2, g3, g4, g5, g6, g7⟩ := hb.obj _ _ _ e1 hg
        have hbl : ((bs.take (off + m)).drop off).length = m := by simp; omega
        have hcell : ∀ (j : Nat) x, (byteVs ((bs.take (off + m)).drop off))[j]? = some x → w.cell? ((⟨pl.b, pl.m + off, none⟩ : Addr).add j) = some x := fun j x hx => by
          simp only [byteVs, List.getElem?_map, Option.map_eq_some_iff] at hx
          obtain ⟨b, hb', rfl⟩ := hx
          rw [List.getElem?_drop, List.getElem?_take] at hb'
          split at hb'
          · rw [K.add_lit, cell_of_row w _ _ vals e' fr g1, Nat.add_assoc]; exact g6 _ _ hb'
          · cases hb'
        refine ⟨(bs.take (off + m)).drop off, ⟨.inl ⟨_, hu⟩, fun w' => ?_, fun w' hw' => ?_, by simp [byteVs]; omega, hone _⟩, hbl, ?_⟩
        · rcases hv with ⟨_, _, rfl⟩ | ⟨hc0, a, rfl⟩
          · rfl
          · have : m = 0 := by omega
            subst this; rfl
        · rcases hv with ⟨_, _, rfl⟩ | ⟨hc0, a, rfl⟩
          · refine run_firstCells_some (P := P) w' 1 m _ m c _ (by simp [byteVs]; omega) fun j x hx => ?_
            have := hcell j x hx
            simpa [World.cell?, hw'] using this
          · have : m = 0 := by omega
            subst this
            have : (bs.take (off + 0)).drop off = [] := by simp
            simp [Builtin.firstCells, loadCells, loadCellsFrom, byteVs]
        · rw [valB_drop _ _ (by simp; omega), valB_take _ _ (by omega), g4, g5]
          congr 2
          simp; omega
      · simp only [hc, decide_false, cond_false] at hr; cases hr
    · cases hr
  · cases hr
noncomputable def evAppK (sz : Nat) (m : Nat) (ys : List V) (x : V) (h : H) (n : Id) (k : KV) : R :=
  match x with
  | .ns => cond (Nat.beq m 0) (k .ns h n) (match nxt n with | some n' => k (.sl n sz 0 m) (hset (.cs 0 0 ys) n h) n' | none => none)
  | .sl o sz' off len => cond (Nat.beq sz sz') (cond (Nat.beq m 0) (k x h n) (match hget o h with
    | some (.cs ty fz xs) => cond (Nat.beq (lenL (takeL (len * sz) (dropL off xs))) (len * sz)) (cond (Nat.ble fz (off + len * sz)) (cond (Nat.ble (len + m) 16777216) (match nxt n with
      | some n' => fN (len + m) fun q => k (.sl n sz 0 q) (hset (.cs 0 (fz - off) (appL (takeL (len * sz) (dropL off xs)) ys)) n (hset .dead o h)) n'
      | none => none) none) none) none
    | _ => none)) none
  | _ => none
noncomputable def evAppB (e m ys : Nat) (x : V) (h : H) (n : Id) (k : KV) : R :=
  match x with
  | .ns => cond (Nat.beq m 0) (k .ns h n) (match nxt n with | some n' => fN ys fun ys => k (.sl n 1 0 m) (hset (.bs (Nat.succ e) 0 m ys) n h) n' | none => none)
  | .sl o sz' off len => cond (Nat.beq sz' 1) (cond (Nat.beq m 0) (k x h n) (match hget o h with
    | some (.bs ty fz l b) => cond (Nat.ble (off + len) l) (cond (Nat.ble fz (off + len)) (cond (Nat.ble (len + m) 16777216) (match nxt n with
      | some n' => fN (len + m) fun q => fN (b / 256 ^ (l - (off + len)) % 256 ^ len * 256 ^ m + ys) fun b' => k (.sl n 1 0 q) (hset (.bs (cond (Nat.beq off 0) (cond (Nat.beq ty (Nat.succ e)) (Nat.succ e) 0) 0) (fz - off) q b') n (hset .dead o h)) n'
      | none => none) none) none) none
    | _ => none)) none
  | _ => none
noncomputable def evApp (T : Tab) (t u : TypeId) (x y : V) (h : H) (n : Id) (k : KV) : R :=
  match T.bb t with
  | some e => srcB T u y h fun m ys => cond (Nat.ble m 16777216) (evAppB e m ys x h n k) none
  | none => match T.ap t with
    | some (_, sz, by_) => cond (Nat.ble by_ 1048576) (srcK T u y sz h fun m ys => cond (Nat.ble m 16777216) (evAppK sz m ys x h n k) none) none
    | none => none
theorem drop_toList (olds news : List Value) (rest : Array Value) : (olds.toArray ++ news.toArray ++ rest).toList = olds ++ news ++ rest.toList := by simp
def AppRes (P : Program) (e e' : TypeId) (fr : Nat × Nat) (t u ty : TypeId) (x y : Value) (w : World) (pl : Pl) (vals : Array Value) (news : List Value) (off fz len m sz : Nat) : Prop :=
  ∃ (v : Value) (w' : World) (pl' : Pl) (vals' : Array Value) (e'' : TypeId) (fr' : Nat × Nat), (Builtin.append_ #[t, u] ty #[x, y]).run P w = .ok v w' ∧ w.grownBy w' (some pl.b) ∧ w.drawn ≤ w'.drawn ∧ (pl'.b = pl.b ∨ pl'.b = w.heap.size) ∧ pl'.b < w'.heap.size ∧
      w'.heap[pl'.b]? = some (.cells vals' e'' fr') ∧ vals'.size = pl'.size ∧ pl'.m + (len + m) * sz ≤ pl'.size ∧ (∀ j, j < len * sz → vals'[pl'.m + j]? = vals[pl.m + off + j]?) ∧ (∀ j, j < m * sz → vals'[pl'.m + len * sz + j]? = news[j]?) ∧
      (∀ off', off' < vals'.size → pl'.m + (fz - off) ≤ off' → ¬ (fr'.1 ≤ off' ∧ off' < fr'.2)) ∧
      (∃ c, len + m ≤ c ∧ c ≤ maxLen ∧ 0 < c ∧ pl'.m + 0 + c * sz ≤ pl'.size ∧ v = .slice (some ⟨pl'.b, pl'.m + 0, none⟩) (len + m) c) ∧ ((e'' = e' ∧ pl'.m = pl.m + off ∧ fr' = fr) ∨ (e'' = e ∧ pl'.m = 0 ∧ fr' = (0, 0)))
theorem app_run {w0 : Fx} {ι : Io} {w : World} {t u ty e : TypeId} {i : TypeInfo} {z : Value} {sz m : Nat} {y : Value} {news : List Value} (S : SrcOk P w u sz y m news) (ht : P.underlying t = some (.slice e)) (hi : P.info? e = some i) (hz : i.zero = some z) (hs : i.size = sz) (hzs : z.cells.size = sz)
    (hby : i.bytes ≤ 1048576) (hm : 0 < m) {o : Id} {off len : Nat} {x : Value} (hx : RV ι (.sl o sz off len) x) (hb : HR w0 ι h n w) (hlm : len + m ≤ 16777216)
    {pl : Pl} (ho : ι o = some pl) {vals : Array Value} {e' : TypeId} {fr : Nat × Nat} (g1 : w.heap[pl.b]? = some (.cells vals e' fr)) (g2 : vals.size = pl.size) {fz : Nat} (hfz : fz ≤ off + len * sz) (g5 : ∀ off, off < vals.size → pl.m + fz ≤ off → ¬ (fr.1 ≤ off ∧ off < fr.2))
    (hin : len * sz = 0 ∨ pl.m + off + len * sz ≤ pl.size) :
    AppRes P e e' fr t u ty x y w pl vals news off fz len m sz := by
  obtain ⟨plx, c, e1, h2, h3, hv⟩ := hx
  rw [ho] at e1
  cases e1
  have hlt : pl.b < w.heap.size := (Array.getElem?_eq_some_iff.1 g1).1
  have grow : ∀ A cap, x = .slice A len cap → cap < len + m → (len = 0 ∨ A = some ⟨pl.b, pl.m + off, none⟩) → AppRes P e e' fr t u ty x y w pl vals news off fz len m sz := by
    intro A cap hxv hcap hA
    have hlo : ((vals.toList.drop (pl.m + off)).take (len * sz)).length = len * sz := by simp; omega
    have hbytes : (len + m) * i.bytes ≤ 140737488355328 := Nat.le_trans (Nat.mul_le_mul hlm hby) (by decide)
    have hrun := run_app_grow (P := P) (w := w) (ty := ty) S ht hi hz hs (A := A) (sLen := len) (sCap := cap) hlo (by
        rcases hA with h | h
        · left; subst h; simp
        · right
          refine ⟨_, h, fun j v hv => ?_⟩
          rw [List.getElem?_take] at hv
          split at hv
          · rw [K.add_lit, cell_of_row w _ _ vals e' fr g1]; simpa using hv
          · cases hv) (fun h => by subst h; simp) hcap (by omega) (growslice_fits hcap hbytes)
    rw [← hxv] at hrun
    have hge := grownCap_ge w (len + m) cap e
    have hcm : grownCap w (len + m) cap e ≤ maxLen := grownCap_le_maxLen w (len + m) cap e (by simp only [maxLen]; omega)
    have hsz0 := S.hl
    have e3 : (len + m) * sz + (grownCap w (len + m) cap e - (len + m)) * sz = grownCap w (len + m) cap e * sz := by rw [← Nat.add_mul]; congr 1; omega
    have e4 : (len + m) * sz = len * sz + m * sz := Nat.add_mul _ _ _
    refine ⟨_, _, ⟨w.heap.size, 0, grownCap w (len + m) cap e * sz⟩, _, e, (0, 0), hrun, ⟨rfl, rfl, rfl, by simp, fun k hk _ => Below.heap_alloc w.drew _ k hk⟩, Nat.le_succ _, .inr rfl, by simp, heap_alloc_new w.drew _, ?_, ?_, fun j hj => ?_, fun j hj => ?_, fun off' _ _ => by show ¬ (0 ≤ off' ∧ off' < 0); omega, ⟨grownCap w (len + m) cap e, hge, hcm, (by omega), (by simp), (by simp)⟩, .inr ⟨rfl, rfl, rfl⟩⟩
    · simp only [Array.size_append, List.size_toArray, size_zeroCells, hzs, hlo, hsz0]
      rw [← e4, e3]
    · have := Nat.mul_le_mul_right sz hge
      simp; exact this
    · rw [← Array.getElem?_toList, drop_toList, Nat.zero_add, List.append_assoc, List.getElem?_append_left (by omega), List.getElem?_take_of_lt hj, List.getElem?_drop, Array.getElem?_toList]
    · rw [← Array.getElem?_toList, drop_toList, Nat.zero_add, List.append_assoc, List.getElem?_append_right (by omega), hlo, show len * sz + j - len * sz = j by omega, List.getElem?_append_left (by omega)]
  rcases hv with ⟨h5, h6, h7⟩ | ⟨h5, a, h7⟩
  · by_cases hroom : len + m ≤ c
    · have e4 : (len + m) * sz = len * sz + m * sz := Nat.add_mul _ _ _
      have e5 := Nat.mul_le_mul_right sz hroom
      have hnl := S.hl
      obtain ⟨w', cur', r1, r2, r3, r4, r5, r6, r7⟩ := run_storeCells (P := P) (b := pl.b) (o := pl.m + off + len * sz) (e := e') (fr := fr) news 0 vals w g1 (by omega) (fun off' b1 b2 => g5 off' (by omega) (by omega)) S.one
      have hrun := run_app_room (P := P) (w := w) (ty := ty) S ht hi hs (a := ⟨pl.b, pl.m + off, none⟩) (sLen := len) (sCap := c) hroom (w' := w') (by rw [K.add_lit]; exact r1)
      rw [← h7] at hrun
      refine ⟨_, w', ⟨pl.b, pl.m + off, pl.size⟩, cur', e', fr, hrun, r2, r3, .inl rfl, by show pl.b < _; omega, r5, by rw [r6]; exact g2, by show pl.m + off + _ ≤ pl.size; omega, fun j hj => ?_, fun j hj => ?_, fun off' b1 b2 => ?_, ⟨c, hroom, h3, (by omega), (by show pl.m + off + 0 + _ ≤ pl.size; omega), (by simp)⟩, .inl ⟨rfl, rfl, rfl⟩⟩
      · show cur'[pl.m + off + j]? = _
        rw [r7, if_neg (by omega)]
      · show cur'[pl.m + off + len * sz + j]? = _
        rw [r7, if_pos (by omega)]; congr 1; omega
      · rw [r6] at b1
        have b2 : pl.m + off + (fz - off) ≤ off' := b2
        exact g5 off' b1 (by omega)
    · exact grow _ _ h7 (by omega) (.inr rfl)
  · have : len = 0 := by omega
    subst this
    exact grow _ _ h7 (by omega) (.inl rfl)
theorem app_run0 {w0 : Fx} {ι : Io} {w : World} {t u ty e : TypeId} {i : TypeInfo} {z : Value} {sz m : Nat} {y : Value} {news : List Value} (S : SrcOk P w u sz y m news) (ht : P.underlying t = some (.slice e)) (hi : P.info? e = some i) (hz : i.zero = some z) (hs : i.size = sz) (hzs : z.cells.size = sz)
    (hby : i.bytes ≤ 1048576) (hm : 0 < m) (hb : HR w0 ι h n w) (hlm : m ≤ 16777216) :
    ∃ (w' : World) (vals' : Array Value), (Builtin.append_ #[t, u] ty #[.slice none 0 0, y]).run P w = .ok (.slice (some ⟨w.heap.size, 0, none⟩) m (grownCap w m 0 e)) w' ∧ w.grownBy w' none ∧ w.drawn ≤ w'.drawn ∧ w.heap.size < w'.heap.size ∧
      w'.heap[w.heap.size]? = some (.cells vals' e (0, 0)) ∧ vals'.size = grownCap w m 0 e * sz ∧ vals'.toList.take (m * sz) = news ∧ m ≤ grownCap w m 0 e ∧ grownCap w m 0 e ≤ maxLen := by
  have hbytes : m * i.bytes ≤ 140737488355328 := Nat.le_trans (Nat.mul_le_mul hlm hby) (by decide)
  have hrun := run_app_grow (P := P) (w := w) (ty := ty) S ht hi hz hs (A := none) (sLen := 0) (sCap := 0) (olds := []) (by simp) (.inl rfl) (fun _ => rfl) (by omega) (by omega) (growslice_fits (by omega) (by simpa using hbytes))
  simp only [Nat.zero_add] at hrun
  have hge := grownCap_ge w m 0 e
  have hcm : grownCap w m 0 e ≤ maxLen := grownCap_le_maxLen w m 0 e (by simp only [maxLen]; omega)
  have hsz0 := S.hl
  refine ⟨_, _, hrun, ⟨rfl, rfl, rfl, by simp, fun k hk _ => Below.heap_alloc w.drew _ k hk⟩, Nat.le_succ _, by simp, heap_alloc_new w.drew _, ?_, ?_, hge, hcm⟩
  · simp only [Array.size_append, List.size_toArray, size_zeroCells, hzs, hsz0, List.length_nil, Nat.zero_add]
    rw [← Nat.add_mul]; congr 1; omega
  · rw [drop_toList, List.nil_append, ← hsz0, List.take_left]
end
end Go.Proofs.Nw.X
end
