/- K2: what one operation does: rules over the abstract state. -/
import Derived.Test.YtjfpnnmagnljnaaNwK1
import Derived.WalkKit
import Derived.Laws.Strings
import Derived.IntWalk
open Go Go.RowKit
set_option linter.unusedVariables false
set_option linter.unusedSimpArgs false
namespace Go.Proofs.Nw.K

theorem RepL.get {σ : Sig} {vs ds} (h : RepL σ vs ds) {i : Nat} {d : D} (hd : ds[i]? = some d) : ∃ v, vs[i]? = some v ∧ Rep σ v d := by
  have hi : i < vs.length := by rw [h.1]; exact (List.getElem?_eq_some_iff.1 hd).1
  exact ⟨vs[i], by simp [hi], h.2 i _ d (by simp [hi]) hd⟩

theorem RepA_sc {σ : Sig} {gh st} {u v : Value} (h : RepA σ gh st u (.sc v)) : u = v := by
  have h : Rep σ u (.sc v) := h
  cases h with
  | sc _ => rfl

theorem RepA_scal {σ : Sig} {gh st} {u v : Value} (h : RepA σ gh st u (.sc v)) : scal v = true := by
  have h : Rep σ u (.sc v) := h
  cases h with
  | sc h2 => exact h2

theorem RepA_of_sc {σ : Sig} {gh st} {v : Value} (h : scal v = true) : RepA σ gh st v (.sc v) := Rep.sc h

/-- the outcome of one operation -/
def Out (P : Program) (w0 : World) (σ0 σ : Sig) (gh : List Value) (st : List AO) (v : AV) (st' : List AO) : Result Next → Prop
  | .ok (.value u) w' => ∃ σ' gh', Fut w0 σ0 σ gh st σ' gh' st' w' ∧ RepA σ' gh' st' u v
  | .ok .skip w' => v = .junk ∧ ∃ σ' gh', Fut w0 σ0 σ gh st σ' gh' st' w'
  | .ok (.enter f args) w' => Calls P f args w' fun e w'' => ∃ u, e = .returned u ∧ ∃ σ' gh', Fut w0 σ0 σ gh st σ' gh' st' w'' ∧ RepA σ' gh' st' u v
  | _ => False

def OpS (P : Program) (op : Op) (E : Operand → AV) (st : List AO) (v : AV) (st' : List AO) : Prop :=
  ∀ (o : Oper), o.op = op → ∀ w0 σ0 σ gh ρ w, Base w0 σ0 σ gh st w → (∀ x ∈ op.operands, RepA σ gh st (ρ x) (E x)) → Out P w0 σ0 σ gh st v st' ((execOp ρ o).run P w)

theorem Fut.refl {w0 : World} {σ0 σ gh st w} (h : Base w0 σ0 σ gh st w) : Fut w0 σ0 σ gh st σ gh st w := ⟨h, fun _ _ h => h⟩

theorem Fut.trans {w0 : World} {σ0 σ gh st σ1 gh1 st1 w1 σ2 gh2 st2 w2} (h : Fut w0 σ0 σ gh st σ1 gh1 st1 w1) (k : Fut w0 σ0 σ1 gh1 st1 σ2 gh2 st2 w2) : Fut w0 σ0 σ gh st σ2 gh2 st2 w2 :=
  ⟨k.base, fun v a h' => k.keep v a (h.keep v a h')⟩

section
variable {P : Program} {E : Operand → AV} {st : List AO}

/-- an operation that leaves the world alone -/
theorem op_pure {op : Op} {v : AV} (h : ∀ (o : Oper), o.op = op → ∀ w0 σ0 σ gh ρ w, Base w0 σ0 σ gh st w → (∀ x ∈ op.operands, RepA σ gh st (ρ x) (E x)) →
    ∃ u, (execOp ρ o).run P w = .ok (.value u) w ∧ RepA σ gh st u v) : OpS P op E st v st := by
  intro o ho w0 σ0 σ gh ρ w hb hr
  obtain ⟨u, h1, h2⟩ := h o ho w0 σ0 σ gh ρ w hb hr
  rw [h1]
  exact ⟨σ, gh, .refl hb, h2⟩

theorem op_move (x : Operand) : OpS P (.move x) E st (E x) st :=
  op_pure fun o ho w0 σ0 σ gh ρ w hb hr => ⟨ρ x, by simp [execOp, ho], hr x (by simp [Op.operands])⟩

theorem op_assign (x : Operand) : OpS P (.assign x) E st (E x) st :=
  op_pure fun o ho w0 σ0 σ gh ρ w hb hr => ⟨ρ x, by simp [execOp, ho], hr x (by simp [Op.operands])⟩

theorem op_pick (c x y : Operand) (b : Bool) (hc : E c = .bool b) : OpS P (.pick c x y) E st (if b then E x else E y) st :=
  op_pure fun o ho w0 σ0 σ gh ρ w hb hr => by
    have h := hr c (by simp [Op.operands])
    rw [hc] at h
    have h := RepA_sc h
    cases b
    · exact ⟨ρ y, by simp [execOp, ho, h, asBool], hr y (by simp [Op.operands])⟩
    · exact ⟨ρ x, by simp [execOp, ho, h, asBool], hr x (by simp [Op.operands])⟩

theorem op_bin (op : BinOp) (t ty : TypeId) (x y : Operand) (a b c : Value) (hx : E x = .sc a) (hy : E y = .sc b)
    (hr : ∀ w, (binOp op t a b).run P w = .ok c w) (hg : eqGuard op t x y a b = pure ()) (hc : scal c = true) : OpS P (.binOp op t x y ty) E st (.sc c) st :=
  op_pure fun o ho w0 σ0 σ gh ρ w hb hρ => by
    have h1 := hρ x (by simp [Op.operands])
    have h2 := hρ y (by simp [Op.operands])
    rw [hx] at h1
    rw [hy] at h2
    exact ⟨c, by simp [execOp, ho, RepA_sc h1, RepA_sc h2, hg, hr], RepA_of_sc hc⟩

section
variable (t ty : TypeId) (x y : Operand) (k : IntKind) (a b : Int)
theorem op_add (hx : E x = .sc (.int k a)) (hy : E y = .sc (.int k b)) : OpS P (.binOp .add t x y ty) E st (.sc (.int k (k.wrap (a + b)))) st :=
  op_bin _ _ _ _ _ _ _ _ hx hy (fun w => by simp [binOp_add, Op.intArith]) (by simp [eqGuard_at_int]) rfl
theorem op_sub (hx : E x = .sc (.int k a)) (hy : E y = .sc (.int k b)) : OpS P (.binOp .sub t x y ty) E st (.sc (.int k (k.wrap (a - b)))) st :=
  op_bin _ _ _ _ _ _ _ _ hx hy (fun w => by simp [binOp_sub, Op.intArith]) (by simp [eqGuard_at_int]) rfl
theorem op_mul (hx : E x = .sc (.int k a)) (hy : E y = .sc (.int k b)) : OpS P (.binOp .mul t x y ty) E st (.sc (.int k (k.wrap (a * b)))) st :=
  op_bin _ _ _ _ _ _ _ _ hx hy (fun w => by simp [binOp_mul, Op.intArith]) (by simp [eqGuard_at_int]) rfl
theorem op_eql (hx : E x = .sc (.int k a)) (hy : E y = .sc (.int k b)) : OpS P (.binOp .eql t x y ty) E st (.bool (a == b)) st :=
  op_bin _ _ _ _ _ _ _ _ hx hy (fun w => by simp [binOp_eql]) (by simp [eqGuard_at_int]) rfl
theorem op_neq (hx : E x = .sc (.int k a)) (hy : E y = .sc (.int k b)) : OpS P (.binOp .neq t x y ty) E st (.bool (a != b)) st :=
  op_bin _ _ _ _ _ _ _ _ hx hy (fun w => by simp [binOp_neq]) (by simp [eqGuard_at_int]) rfl
theorem op_lss (hx : E x = .sc (.int k a)) (hy : E y = .sc (.int k b)) : OpS P (.binOp .lss t x y ty) E st (.bool (decide (a < b))) st :=
  op_bin _ _ _ _ _ _ _ _ hx hy (fun w => by simp [binOp_lss]) (by simp [eqGuard_at_int]) rfl
theorem op_leq (hx : E x = .sc (.int k a)) (hy : E y = .sc (.int k b)) : OpS P (.binOp .leq t x y ty) E st (.bool (decide (a ≤ b))) st :=
  op_bin _ _ _ _ _ _ _ _ hx hy (fun w => by simp [binOp_leq]) (by simp [eqGuard_at_int]) rfl
theorem op_gtr (hx : E x = .sc (.int k a)) (hy : E y = .sc (.int k b)) : OpS P (.binOp .gtr t x y ty) E st (.bool (decide (a > b))) st :=
  op_bin _ _ _ _ _ _ _ _ hx hy (fun w => by simp [binOp_gtr]) (by simp [eqGuard_at_int]) rfl
theorem op_geq (hx : E x = .sc (.int k a)) (hy : E y = .sc (.int k b)) : OpS P (.binOp .geq t x y ty) E st (.bool (decide (a ≥ b))) st :=
  op_bin _ _ _ _ _ _ _ _ hx hy (fun w => by simp [binOp_geq]) (by simp [eqGuard_at_int]) rfl
end

theorem wrap_i64_id (n : Int) (h1 : -9223372036854775808 ≤ n) (h2 : n ≤ 9223372036854775807) : IntKind.i64.wrap n = n := by
  simp only [IntKind.wrap, IntKind.bits, IntKind.signed]
  simp
  split <;> omega

section
variable (t ty : TypeId) (x y : Operand) (a b : Int)
theorem op_add64 (hx : E x = .int a) (hy : E y = .int b) (h1 : -9223372036854775808 ≤ a + b) (h2 : a + b ≤ 9223372036854775807) : OpS P (.binOp .add t x y ty) E st (.int (a + b)) st := by
  have := op_add (P := P) (st := st) t ty x y .i64 a b hx hy
  rwa [wrap_i64_id _ h1 h2] at this
theorem op_sub64 (hx : E x = .int a) (hy : E y = .int b) (h1 : -9223372036854775808 ≤ a - b) (h2 : a - b ≤ 9223372036854775807) : OpS P (.binOp .sub t x y ty) E st (.int (a - b)) st := by
  have := op_sub (P := P) (st := st) t ty x y .i64 a b hx hy
  rwa [wrap_i64_id _ h1 h2] at this
end

section
variable (t ty : TypeId) (x y : Operand) (a b : ByteArray)
theorem op_seql (hx : E x = .str a) (hy : E y = .str b) : OpS P (.binOp .eql t x y ty) E st (.bool (a.toList == b.toList)) st :=
  op_bin _ _ _ _ _ _ _ _ hx hy (fun w => by simp [binOp, Op.stringOp]) (by simp [eqGuard_at_string]) rfl
theorem op_sneq (hx : E x = .str a) (hy : E y = .str b) : OpS P (.binOp .neq t x y ty) E st (.bool (!(a.toList == b.toList))) st :=
  op_bin _ _ _ _ _ _ _ _ hx hy (fun w => by simp [binOp, Op.stringOp]) (by simp [eqGuard_at_string]) rfl
theorem op_slss (hx : E x = .str a) (hy : E y = .str b) : OpS P (.binOp .lss t x y ty) E st (.bool (Op.bytesLess a.toList b.toList)) st :=
  op_bin _ _ _ _ _ _ _ _ hx hy (fun w => by simp [binOp, Op.stringOp]) (by simp [eqGuard_at_string]) rfl
theorem op_sleq (hx : E x = .str a) (hy : E y = .str b) : OpS P (.binOp .leq t x y ty) E st (.bool (Op.bytesLess a.toList b.toList || a.toList == b.toList)) st :=
  op_bin _ _ _ _ _ _ _ _ hx hy (fun w => by simp [binOp, Op.stringOp]) (by simp [eqGuard_at_string]) rfl
theorem op_sgtr (hx : E x = .str a) (hy : E y = .str b) : OpS P (.binOp .gtr t x y ty) E st (.bool (!(Op.bytesLess a.toList b.toList || a.toList == b.toList))) st :=
  op_bin _ _ _ _ _ _ _ _ hx hy (fun w => by simp [binOp, Op.stringOp]) (by simp [eqGuard_at_string]) rfl
theorem op_sadd (hx : E x = .str a) (hy : E y = .str b) (h : a.size + b.size ≤ 9223372036854775807) : OpS P (.binOp .add t x y ty) E st (.str (a ++ b)) st :=
  op_bin _ _ _ _ _ _ _ _ hx hy (fun w => by
    have : ¬ (9223372036854775807 < (a.size : Int) + b.size) := by omega
    simp [binOp, Op.stringOp, this]) (by rfl) rfl
end

section
variable (t ty : TypeId) (x y : Operand) (a b : Bool)
theorem op_beql (ht : P.underlying t = some .bool) (hx : E x = .bool a) (hy : E y = .bool b) : OpS P (.binOp .eql t x y ty) E st (.bool (a == b)) st :=
  op_bin _ _ _ _ _ _ _ _ hx hy (fun w => run_eql_bool w t a b ht) (by simp [eqGuard_at_bool]) rfl
end

theorem op_not (t : TypeId) (x : Operand) (b : Bool) (hx : E x = .bool b) : OpS P (.unOp .not t x) E st (.bool (!b)) st :=
  op_pure fun o ho w0 σ0 σ gh ρ w hb hρ => by
    have h1 := hρ x (by simp [Op.operands])
    rw [hx] at h1
    exact ⟨_, by simp [execOp, ho, RepA_sc h1, Op.unary], RepA_of_sc rfl⟩

theorem op_neg (t : TypeId) (x : Operand) (k : IntKind) (b : Int) (hx : E x = .sc (.int k b)) : OpS P (.unOp .neg t x) E st (.sc (.int k (k.wrap (0 - b)))) st :=
  op_pure fun o ho w0 σ0 σ gh ρ w hb hρ => by
    have h1 := hρ x (by simp [Op.operands])
    rw [hx] at h1
    exact ⟨_, by simp [execOp, ho, RepA_sc h1, Op.unary, Op.intArith], RepA_of_sc rfl⟩

/-- a field of a struct in slots -/
def fieldOf (cs : List D) (off : Nat) : Option (Nat × Bool) → AV
  | some (n, true) => .agg ((cs.drop off).take n)
  | some (_, false) => match cs[off]? with | some d => .d d | none => .junk
  | none => .junk

end
end Go.Proofs.Nw.K
