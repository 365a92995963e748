/- Bundle: NwX14D0, NwX14D. -/
import Derived.Test.YtbooikopklijdaaGreatDoorNwJ14
import Derived.Test.YtbooikopklijdaaGreatDoorNwJ14c1
set_option linter.constructorNameAsVariable false
set_option linter.unusedVariables false
set_option linter.unusedSimpArgs false
set_option linter.unusedSectionVars false
section
/- printed by xl.py: function 14 counts the rest by 4. -/
open Go Go.RowKit Go.Proofs
set_option linter.unusedVariables false
set_option maxRecDepth 100000
namespace Go.Proofs.Nw.X
open Go.Proofs.Nw.K
theorem conv_u (i : Int) (h : H) (n : Id) (k : KV) : evConv2 tbx mtab 3 22 (.i .i64 i) h n k = k (.i .u64 (.ofNat (uN i))) h n := by
  have e : evConv2 tbx mtab 3 22 (.i .i64 i) h n k = fI (wrapK .u64 i) fun r => k (.i .u64 r) h n := by kernel_rfl
  rw [e, fI_eq]
  cases i <;> rfl
theorem rem_u (a : Nat) (kk : KP) : evBin2 tbx .rem 22 (.i .u64 (.ofNat a)) (.i .u64 4) kk = kk (.i .u64 (.ofNat (a % 4))) := by
  have e : evBin2 tbx .rem 22 (.i .u64 (.ofNat a)) (.i .u64 4) kk = fI (Int.tmod (.ofNat a) (.ofNat 4)) fun r => kk (.i .u64 r) := by kernel_rfl
  rw [e, fI_eq]
  rfl
noncomputable def t14 (rm : H → Id → KV → R) (fu : Nat) (cf : CF) (a0 : V) (h : H) (n : Id) (k : KV) : R :=
 cf 28 [(.s 1 98), (.s 1 49)] h n fun v1 h n =>
 cf 28 [(.s 1 98), (.s 1 49)] h n fun v2 h n =>
 evAlloc tbx 51 h n fun v3 h n =>
 evAlloc tbx 51 h n fun v4 h n =>
 evStore tbx 51 v3 v1 h n fun _ h n =>
 evStore tbx 51 v4 v2 h n fun _ h n =>
 rm h n fun v6 h n =>
 jp (fun (s7 : VT [3, 4, 5]) h n =>
 pc s7 fun v9 s10 =>
 pc s10 fun v11 s12 =>
 pc s12 fun v13 s14 =>
 evLoad tbx 51 v9 h fun v15 =>
 evLoad tbx 51 v11 h fun v16 =>
 alB n fun n' => sliA tbx 30 1 [(0, v16)] fun x mk => 
 (fun (v17 : V) h n =>
 evLoad tbx 51 v9 h fun w98 => cond (eqV 6 w98 v15) (
 evLoad tbx 51 v11 h fun w97 => cond (eqV 6 w97 v16) (
 ckO (vId v17) h fun id x' => sliA tbx 30 1 [(0, v16)] fun x mk => cond (eqO x' x) (cond (eqV 6 (mk id) v17) (
 cf 28 [(.s 1 109), (.s 1 49)] h n fun v18 h n =>
 alB n fun n' => sliA tbx 30 2 [(0, v18), (1, v15)] fun x mk => 
 (fun (v19 : V) h n =>
 evLoad tbx 51 v9 h fun w96 => cond (eqV 6 w96 v15) (
 ckO (vId v19) h fun id x' => sliA tbx 30 2 [(0, v18), (1, v15)] fun x mk => cond (eqO x' x) (cond (eqV 6 (mk id) v19) (
 evLoad tbx 51 v11 h fun w95 => cond (eqV 6 w95 v16) (
 ckO (vId v17) h fun id x' => sliA tbx 30 1 [(0, v16)] fun x mk => cond (eqO x' x) (cond (eqV 6 (mk id) v17) (
 cf 27 [(.s 1 97), (.s 1 49), v19] h n fun v20 h n =>
 evLoad tbx 51 v11 h fun w94 => cond (eqV 6 w94 v16) (
 ckO (vId v17) h fun id x' => sliA tbx 30 1 [(0, v16)] fun x mk => cond (eqO x' x) (cond (eqV 6 (mk id) v17) (
 cf 27 [(.s 1 109), (.s 1 49), v17] h n fun v21 h n =>
 cf 27 [(.s 1 98), (.s 1 49), .ns] h n fun v22 h n =>
 cf 27 [(.s 1 98), (.s 1 50), .ns] h n fun v23 h n =>
 alB n fun n' => sliA tbx 28 4 [(0, v20), (1, v21), (2, v22), (3, v23)] fun x mk => 
 (fun (v24 : V) h n =>
 ckO (vId v24) h fun id x' => sliA tbx 28 4 [(0, v20), (1, v21), (2, v22), (3, v23)] fun x mk => cond (eqO x' x) (cond (eqV 6 (mk id) v24) (
 cf 19 [v24] h n fun v25 h n =>
 evExt 0 v25 fun v26 =>
 evExt 1 v25 fun v27 =>
 evBuild tbx 24 [(0, (.s 1 103)), (1, (.s 1 97)), (2, (.s 1 49))] fun v28 =>
 cf 29 [v26, v28] h n fun v29 h n =>
 evExt 0 v29 fun v30 =>
 evExt 1 v29 fun v31 =>
 evAlloc tbx 66 h n fun v32 h n =>
 evStore tbx 66 v32 v30 h n fun _ h n =>
 cf 30 [] h n fun v33 h n =>
 jp (fun (v34 : V) h n =>
 jp (fun (v36 : V) h n =>
 evPick v33 v36 (.b false) fun v38 =>
 jp (fun (v39 : V) h n =>
 jp (fun (v41 : V) h n =>
 evPick v38 v41 (.b false) fun v43 =>
 jp (fun (v44 : V) h n =>
 jp (fun (v46 : V) h n =>
 jp (fun (v48 : V) h n =>
 jp (fun (v50 : V) h n =>
 evPick v43 v50 (.b false) fun v52 =>
 jp (fun (v53 : V) h n =>
 jp (fun (v55 : V) h n =>
 jp (fun (v57 : V) h n =>
 jp (fun (v59 : V) h n =>
 jp (fun (v61 : V) h n =>
 jp (fun (v63 : V) h n =>
 evPick v52 v63 (.b false) fun v65 =>
 jp (fun (v66 : V) h n =>
 jp (fun (v68 : V) h n =>
 jp (fun (v70 : V) h n =>
 jp (fun (v72 : V) h n =>
 jp (fun (v74 : V) h n =>
 jp (fun (v76 : V) h n =>
 jp (fun (v78 : V) h n =>
 evPick v65 v78 (.b false) fun v80 =>
 jp (fun (v81 : V) h n =>
 jp (fun (v83 : V) h n =>
 jp (fun (v85 : V) h n =>
 jp (fun (v87 : V) h n =>
 jp (fun (v89 : V) h n =>
 jp (fun (v91 : V) h n =>
 evPick v80 v91 (.b false) fun v93 =>
 k v93 h n) fun kk92 =>
 gdB v80 true ((evBin2 tbx .eql 3 v89 (.i .i64 0) fun v => kk92 v h n)) (kk92 (.tp []) h n)) fun kk90 =>
 gdB v80 true ((evLoad tbx 3 v87 h fun v => kk90 v h n)) (kk90 (.tp []) h n)) fun kk88 =>
 gdB v80 true ((evFa tbx 70 0 v85 fun v => kk88 v h n)) (kk88 (.tp []) h n)) fun kk86 =>
 gdB v80 true ((evIa tbx 64 v83 (.i .i64 2) fun v => kk86 v h n)) (kk86 (.tp []) h n)) fun kk84 =>
 gdB v80 true ((evLoad tbx 64 v81 h fun v => kk84 v h n)) (kk84 (.tp []) h n)) fun kk82 =>
 gdB v80 true ((evFa tbx 66 1 v32 fun v => kk82 v h n)) (kk82 (.tp []) h n)) fun kk79 =>
 gdB v65 true ((evBin2 tbx .eql 3 v74 v76 fun v => kk79 v h n)) (kk79 (.tp []) h n)) fun kk77 =>
 gdB v65 true (kk77 v13 h n) (kk77 (.tp []) h n)) fun kk75 =>
 gdB v65 true ((evLoad tbx 3 v72 h fun v => kk75 v h n)) (kk75 (.tp []) h n)) fun kk73 =>
 gdB v65 true ((evFa tbx 70 3 v70 fun v => kk73 v h n)) (kk73 (.tp []) h n)) fun kk71 =>
 gdB v65 true ((evIa tbx 64 v68 (.i .i64 2) fun v => kk71 v h n)) (kk71 (.tp []) h n)) fun kk69 =>
 gdB v65 true ((evLoad tbx 64 v66 h fun v => kk69 v h n)) (kk69 (.tp []) h n)) fun kk67 =>
 gdB v65 true ((evFa tbx 66 1 v32 fun v => kk67 v h n)) (kk67 (.tp []) h n)) fun kk64 =>
 gdB v52 true ((evBin2 tbx .eql 3 v61 (.i .i64 1) fun v => kk64 v h n)) (kk64 (.tp []) h n)) fun kk62 =>
 gdB v52 true ((evLoad tbx 3 v59 h fun v => kk62 v h n)) (kk62 (.tp []) h n)) fun kk60 =>
 gdB v52 true ((evFa tbx 70 3 v57 fun v => kk60 v h n)) (kk60 (.tp []) h n)) fun kk58 =>
 gdB v52 true ((evIa tbx 64 v55 (.i .i64 1) fun v => kk58 v h n)) (kk58 (.tp []) h n)) fun kk56 =>
 gdB v52 true ((evLoad tbx 64 v53 h fun v => kk56 v h n)) (kk56 (.tp []) h n)) fun kk54 =>
 gdB v52 true ((evFa tbx 66 1 v32 fun v => kk54 v h n)) (kk54 (.tp []) h n)) fun kk51 =>
 gdB v43 true ((evBin2 tbx .eql 3 v48 (.i .i64 3) fun v => kk51 v h n)) (kk51 (.tp []) h n)) fun kk49 =>
 gdB v43 true ((evLen tbx 64 v46 fun v => kk49 v h n)) (kk49 (.tp []) h n)) fun kk47 =>
 gdB v43 true ((evLoad tbx 64 v44 h fun v => kk47 v h n)) (kk47 (.tp []) h n)) fun kk45 =>
 gdB v43 true ((evFa tbx 66 1 v32 fun v => kk45 v h n)) (kk45 (.tp []) h n)) fun kk42 =>
 gdB v38 true ((evBin2 tbx .eql 33 v39 (.i .i64 0) fun v => kk42 v h n)) (kk42 (.tp []) h n)) fun kk40 =>
 gdB v38 true (kk40 v31 h n) (kk40 (.tp []) h n)) fun kk37 =>
 gdB v33 true ((evBin2 tbx .eql 33 v34 (.i .i64 0) fun v => kk37 v h n)) (kk37 (.tp []) h n)) fun kk35 =>
 gdB v33 true (kk35 v27 h n) (kk35 (.tp []) h n)) none) none) (mk n) (hset x n h) n') none) none) none) none) none) none) none) none) none) (mk n) (hset x n h) n') none) none) none) none) (mk n) (hset x n h) n') fun kk8 =>
 evBin2 tbx .eql 22 v6 (.i .u64 0) fun v99 =>
 brB v99 (
 evFa tbx 51 3 v4 fun v100 =>
 evStore tbx 9 v100 (.s 3 7368557) h n fun _ h n =>
 kk8 (v3, v4, (.i .i64 1), ()) h n) (
 evBin2 tbx .eql 22 v6 (.i .u64 1) fun v101 =>
 brB v101 (
 evFa tbx 51 4 v4 fun v102 =>
 evStore tbx 9 v102 (.s 1 99) h n fun _ h n =>
 kk8 (v3, v4, (.i .i64 1), ()) h n) (
 evBin2 tbx .eql 22 v6 (.i .u64 2) fun v103 =>
 brB v103 (
 evFa tbx 51 2 v4 fun v104 =>
 evStore tbx 9 v104 (.s 1 50) h n fun _ h n =>
 kk8 (v3, v4, (.i .i64 2), ()) h n) (
 kk8 (v3, v4, (.i .i64 3), ()) h n)))
noncomputable def rm14 (i : Int) : H → Id → KV → R := fun h n k => evConv2 tbx mtab 3 22 (.i .i64 i) h n fun v h n => evBin2 tbx .rem 22 v (.i .u64 4) fun v => k v h n
theorem rm14_eq (i : Int) : rm14 i = rm14 (.ofNat (uN i % 4)) := by
  funext h n k
  unfold rm14
  rw [conv_u, conv_u, rem_u, rem_u, uN_nat (Nat.lt_trans (Nat.mod_lt _ (by omega)) (by omega : 4 < 18446744073709551616)), Nat.mod_mod]
theorem s14_t (fu : Nat) (cf : CF) (i : Int) (h : H) (n : Id) (k : KV) : s14 fu cf (.i .i64 i) h n k = t14 (rm14 i) fu cf (.i .i64 i) h n k := by kernel_rfl
theorem t14_n (rm : H → Id → KV → R) (fu : Nat) (cf : CF) (x y : V) (h : H) (n : Id) (k : KV) : t14 rm fu cf x h n k = t14 rm fu cf y h n k := by kernel_rfl
theorem s14_r (fu : Nat) (cf : CF) (i : Int) (h : H) (n : Id) (k : KV) : s14 fu cf (.i .i64 i) h n k = s14 fu cf (vN (uN i % 4)) h n k := by
  rw [s14_t, rm14_eq, s14_t]
  exact t14_n _ _ _  _ _ _ _ _
theorem s14_c (cf : CF) (i : Int) : w1 (s14 fuX) cf [(.i .i64 i)] .e n0 kEnd = w1 (s14 fuX) cf [vN (uN i % 4)] .e n0 kEnd := s14_r fuX cf  i .e n0 kEnd
end Go.Proofs.Nw.X
end
section
/- printed by xl.py: function 14 returns true. -/
open Go Go.RowKit Go.Proofs
set_option maxRecDepth 100000
namespace Go.Proofs.Nw.X
open Go.Proofs.Nw.K
theorem all14 (r : Nat) (hr : r < 4) : cfX 200 14 [vN r] .e n0 kEnd = some (.b true) := by
  match r, hr with
  | 0, _ => exact c14_0
  | 1, _ => exact c14_1
  | 2, _ => exact c14_2
  | 3, _ => exact c14_3
  | r + 4, hr => exact absurd hr (by omega)
theorem run14 (i : Int) {W : World} (hG : Gi W) : Calls Tryz.prog 14 #[.int .i64 i] W fun e W' => e = .returned (.bool true) ∧ Below W.heap.size W W' := by
  have e : ∀ vs h n k, cfX 200 14 vs h n k = w1 (s14 fuX) (cfX 199) vs h n k := fun vs h n k => by kernel_rfl
  refine law_run (us := [.int .i64 i]) (vs := [(.i .i64 i)]) (by kernel_rfl) (cfX_ok 200 14) ?_ hG ?_
  · rw [e, s14_c, ← e]; exact all14 _ (Nat.mod_lt _ (by omega))
  · exact ⟨_, _, rfl, rfl, rfl⟩
end Go.Proofs.Nw.X
end
