/- Bundle: NwX11D0, NwX11D. -/
import Derived.Test.YtbooikopklijdaaGreatDoorNwJ14
import Derived.Test.YtbooikopklijdaaGreatDoorNwJ11c1
import Derived.Test.YtbooikopklijdaaGreatDoorNwJ11c2
import Derived.Test.YtbooikopklijdaaGreatDoorNwJ11c3
import Derived.Test.YtbooikopklijdaaGreatDoorNwJ11c4
set_option linter.constructorNameAsVariable false
set_option linter.unusedVariables false
set_option linter.unusedSimpArgs false
set_option linter.unusedSectionVars false
section
/- printed by xl.py: function 11 counts the rest by 4. -/
open Go Go.RowKit Go.Proofs
set_option linter.unusedVariables false
set_option maxRecDepth 100000
namespace Go.Proofs.Nw.X
open Go.Proofs.Nw.K
theorem rc_u (i : Int) (h : H) (k : KP) : evRc tbx 3 22 (.i .i64 i) h k = k (.i .u64 (.ofNat (uN i))) := by
  have e : evRc tbx 3 22 (.i .i64 i) h k = fI (wrapK .u64 i) fun r => k (.i .u64 r) := by kernel_rfl
  rw [e, fI_eq]
  cases i <;> rfl
theorem rem_u (a : Nat) (kk : KP) : evBin2 tbx .rem 22 (.i .u64 (.ofNat a)) (.i .u64 4) kk = kk (.i .u64 (.ofNat (a % 4))) := by
  have e : evBin2 tbx .rem 22 (.i .u64 (.ofNat a)) (.i .u64 4) kk = fI (Int.tmod (.ofNat a) (.ofNat 4)) fun r => kk (.i .u64 r) := by kernel_rfl
  rw [e, fI_eq]
  rfl
theorem eq_u (a : Nat) : eqV 6 (.i .u64 (.ofNat a)) (.i .u64 (.ofNat a)) = true := by
  have e : eqV 6 (.i .u64 (.ofNat a)) (.i .u64 (.ofNat a)) = Nat.beq a a := by kernel_rfl
  rw [e]; exact Nat.beq_refl a
theorem s11_r (fu : Nat) (cf : CF) (a0 : V) (a2 : V) (i : Int) (h : H) (n : Id) (k : KV) : s11 fu cf a0 (.i .i64 i) a2 h n k = s11 fu cf a0 (vN (uN i % 4)) a2 h n k := by
  unfold s11
  simp only [rc_u, rem_u, eq_u, cond_true, uN_nat (Nat.lt_trans (Nat.mod_lt (uN i) (by omega : 4 > 0)) (by omega : 4 < 18446744073709551616)), Nat.mod_mod]
theorem wv3 (s : CF → V → V → V → H → Id → KV → R) (cf : CF) (a0 a1 a2 : V) (h : H) (n : Id) (k : KV) : w3 s cf [a0, a1, a2] h n k = s cf a0 a1 a2 h n k := rfl
theorem s11_c (cf : CF) (b0 : Bool) (b2 : Bool) (i : Int) : w3 (s11 fuX) cf [(.b b0), (.i .i64 i), (.b b2)] .e n0 kEnd = w3 (s11 fuX) cf [.b b0, vN (uN i % 4), .b b2] .e n0 kEnd :=
  (wv3 (s11 fuX) cf _ _ _ .e n0 kEnd).trans ((s11_r fuX cf (.b b0) (.b b2) i .e n0 kEnd).trans (wv3 (s11 fuX) cf _ _ _ .e n0 kEnd).symm)
end Go.Proofs.Nw.X
end
section
/- printed by xl.py: function 11 returns true. -/
open Go Go.RowKit Go.Proofs
set_option maxRecDepth 100000
namespace Go.Proofs.Nw.X
open Go.Proofs.Nw.K
theorem all11 (b0 : Bool) (b2 : Bool) (r : Nat) (hr : r < 4) : cfY 200 11 [.b b0, vN r, .b b2] .e n0 kEnd = some (.b true) := by
  match r, b0, b2, hr with
  | 0, true, true, _ => exact c11_0_t_t
  | 0, true, false, _ => exact c11_0_t_f
  | 0, false, true, _ => exact c11_0_f_t
  | 0, false, false, _ => exact c11_0_f_f
  | 1, true, true, _ => exact c11_1_t_t
  | 1, true, false, _ => exact c11_1_t_f
  | 1, false, true, _ => exact c11_1_f_t
  | 1, false, false, _ => exact c11_1_f_f
  | 2, true, true, _ => exact c11_2_t_t
  | 2, true, false, _ => exact c11_2_t_f
  | 2, false, true, _ => exact c11_2_f_t
  | 2, false, false, _ => exact c11_2_f_f
  | 3, true, true, _ => exact c11_3_t_t
  | 3, true, false, _ => exact c11_3_t_f
  | 3, false, true, _ => exact c11_3_f_t
  | 3, false, false, _ => exact c11_3_f_f
  | r + 4, _, _, hr => exact absurd hr (by omega)
theorem run11 (b0 : Bool) (b2 : Bool) (i : Int) {W : World} (hG : Gi W) : Calls Tryz.prog 11 #[.bool b0, .int .i64 i, .bool b2] W fun e W' => e = .returned (.bool true) ∧ Below W.heap.size W W' := by
  have e : ∀ vs h n k, cfY 200 11 vs h n k = w3 (s11 fuX) (cfY 199) vs h n k := fun vs h n k => by kernel_rfl
  refine law_run (us := [.bool b0, .int .i64 i, .bool b2]) (vs := [(.b b0), (.i .i64 i), (.b b2)]) (by kernel_rfl) (cfY_ok 200 11) ?_ hG ?_
  · rw [e, s11_c, ← e]; exact all11 b0 b2 _ (Nat.mod_lt _ (by omega))
  · exact ⟨_, _, rfl, rfl, ⟨_, _, rfl, rfl, ⟨_, _, rfl, rfl, rfl⟩⟩⟩
end Go.Proofs.Nw.X
end
