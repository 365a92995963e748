/- Bundle: NwX9D0, NwX9D. -/
import Derived.Test.YtbooikopklijdaaGreatDoorNwJ14
import Derived.Test.YtbooikopklijdaaGreatDoorNwJ9c1
import Derived.Test.YtbooikopklijdaaGreatDoorNwJ9c2
set_option linter.constructorNameAsVariable false
set_option linter.unusedVariables false
set_option linter.unusedSimpArgs false
set_option linter.unusedSectionVars false
section
/- printed by xl.py: function 9 counts the rest by 7. -/
open Go Go.RowKit Go.Proofs
set_option linter.unusedVariables false
set_option maxRecDepth 100000
namespace Go.Proofs.Nw.X
open Go.Proofs.Nw.K
theorem conv_u (i : Int) (h : H) (n : Id) (k : KV) : evConv2 tbx mtab 3 22 (.i .i64 i) h n k = k (.i .u64 (.ofNat (uN i))) h n := by
  have e : evConv2 tbx mtab 3 22 (.i .i64 i) h n k = fI (wrapK .u64 i) fun r => k (.i .u64 r) h n := by kernel_rfl
  rw [e, fI_eq]
  cases i <;> rfl
theorem rem_u (a : Nat) (kk : KP) : evBin2 tbx .rem 22 (.i .u64 (.ofNat a)) (.i .u64 7) kk = kk (.i .u64 (.ofNat (a % 7))) := by
  have e : evBin2 tbx .rem 22 (.i .u64 (.ofNat a)) (.i .u64 7) kk = fI (Int.tmod (.ofNat a) (.ofNat 7)) fun r => kk (.i .u64 r) := by kernel_rfl
  rw [e, fI_eq]
  rfl
noncomputable def t9 (rm : H → Id → KV → R) (fu : Nat) (cf : CF) (a0 : V) (h : H) (n : Id) (k : KV) : R :=
 evBuild tbx 24 [(0, (.s 1 103)), (1, (.s 3 6447460)), (2, (.s 1 49))] fun v1 =>
 evBuild tbx 37 [(0, v1), (1, (.s 9 1114907305604924273726))] fun v2 =>
 evAlloc tbx 37 h n fun v3 h n =>
 evStore tbx 37 v3 v2 h n fun _ h n =>
 evBuild tbx 24 [(0, (.s 1 103)), (1, (.s 1 97)), (2, (.s 1 49))] fun v4 =>
 evAlloc tbx 24 h n fun v5 h n =>
 evStore tbx 24 v5 v4 h n fun _ h n =>
 evLoad tbx 37 v3 h fun v6 =>
 evLoad tbx 37 v3 h fun w109 => cond (eqV 6 w109 v6) (
 cf 28 [(.s 3 6447460), (.s 1 49)] h n fun v7 h n =>
 evLoad tbx 37 v3 h fun w108 => cond (eqV 6 w108 v6) (
 evBuildSl tbx 30 1 [(0, v7)] h n fun v8 h n =>
 evLoad tbx 37 v3 h fun w107 => cond (eqV 6 w107 v6) (
 cf 27 [(.s 1 98), (.s 1 49), v8] h n fun v9 h n =>
 evLoad tbx 37 v3 h fun w106 => cond (eqV 6 w106 v6) (
 cf 27 [(.s 1 99), (.s 1 49), .ns] h n fun v10 h n =>
 evLoad tbx 37 v3 h fun w105 => cond (eqV 6 w105 v6) (
 evBuildSl tbx 28 3 [(0, v6), (1, v9), (2, v10)] h n fun v11 h n =>
 cf 28 [(.s 1 98), (.s 1 49)] h n fun v12 h n =>
 cf 28 [(.s 1 99), (.s 1 49)] h n fun v13 h n =>
 evBuildSl tbx 30 2 [(0, v12), (1, v13)] h n fun v14 h n =>
 cf 27 [(.s 1 97), (.s 1 49), v14] h n fun v15 h n =>
 evAlloc tbx 37 h n fun v16 h n =>
 evStore tbx 37 v16 v15 h n fun _ h n =>
 rm h n fun v18 h n =>
 jp (fun (s19 : VT [4, 5, 6, 7]) h n =>
 pc s19 fun v21 s22 =>
 pc s22 fun v23 s24 =>
 pc s24 fun v25 s26 =>
 pc s26 fun v27 s28 =>
 evLoad tbx 37 v25 h fun v29 =>
 evBuildSl tbx 28 1 [(0, v29)] h n fun v30 h n =>
 evApp tbx 28 28 v23 v30 h n fun v31 h n =>
 cf 19 [v31] h n fun v32 h n =>
 evExt 0 v32 fun v33 =>
 evExt 1 v32 fun v34 =>
 evLoad tbx 24 v21 h fun v35 =>
 cf 29 [v33, v35] h n fun v36 h n =>
 evExt 0 v36 fun v37 =>
 evExt 1 v36 fun v38 =>
 evAlloc tbx 66 h n fun v39 h n =>
 evStore tbx 66 v39 v37 h n fun _ h n =>
 cf 30 [] h n fun v40 h n =>
 jp (fun (v41 : V) h n =>
 jp (fun (v43 : V) h n =>
 evPick v40 v43 (.b false) fun v45 =>
 jp (fun (v46 : V) h n =>
 jp (fun (v48 : V) h n =>
 jp (fun (v50 : V) h n =>
 evPick v45 v50 (.b false) fun v52 =>
 jp (fun (v53 : V) h n =>
 jp (fun (v55 : V) h n =>
 jp (fun (v57 : V) h n =>
 jp (fun (v59 : V) h n =>
 jp (fun (v61 : V) h n =>
 jp (fun (v63 : V) h n =>
 jp (fun (v65 : V) h n =>
 evPick v52 v65 (.b false) fun v67 =>
 k v67 h n) fun kk66 =>
 gdB v52 true ((evBin2 tbx .eql 4 v55 v63 fun v => kk66 v h n)) (kk66 (.tp []) h n)) fun kk64 =>
 gdB v52 true ((evBin2 tbx .gtr 3 v61 (.i .i64 0) fun v => kk64 v h n)) (kk64 (.tp []) h n)) fun kk62 =>
 gdB v52 true ((evLen tbx 64 v59 fun v => kk62 v h n)) (kk62 (.tp []) h n)) fun kk60 =>
 gdB v52 true ((evLoad tbx 64 v57 h fun v => kk60 v h n)) (kk60 (.tp []) h n)) fun kk58 =>
 gdB v52 true ((evFa tbx 66 1 v39 fun v => kk58 v h n)) (kk58 (.tp []) h n)) fun kk56 =>
 gdB v52 true ((evBin2 tbx .eql 33 v53 (.i .i64 0) fun v => kk56 v h n)) (kk56 (.tp []) h n)) fun kk54 =>
 gdB v52 true (kk54 v38 h n) (kk54 (.tp []) h n)) fun kk51 =>
 gdB v45 true ((evBin2 tbx .eql 33 v46 v48 fun v => kk51 v h n)) (kk51 (.tp []) h n)) fun kk49 =>
 gdB v45 true (kk49 v27 h n) (kk49 (.tp []) h n)) fun kk47 =>
 gdB v45 true (kk47 v38 h n) (kk47 (.tp []) h n)) fun kk44 =>
 gdB v40 true ((evBin2 tbx .eql 33 v41 (.i .i64 0) fun v => kk44 v h n)) (kk44 (.tp []) h n)) fun kk42 =>
 gdB v40 true (kk42 v34 h n) (kk42 (.tp []) h n)) fun kk20 =>
 evBin2 tbx .eql 22 v18 (.i .u64 0) fun v68 =>
 brB v68 (
 cf 28 [(.s 1 98), (.s 1 49)] h n fun v69 h n =>
 cf 28 [(.s 4 1852796517), (.s 1 49)] h n fun v70 h n =>
 evBuildSl tbx 30 2 [(0, v69), (1, v70)] h n fun v71 h n =>
 cf 27 [(.s 1 97), (.s 1 49), v71] h n fun v72 h n =>
 evStore tbx 37 v16 v72 h n fun _ h n =>
 kk20 (v5, v11, v16, (.i .i64 14), ()) h n) (
 evBin2 tbx .eql 22 v18 (.i .u64 1) fun v73 =>
 brB v73 (
 cf 28 [(.s 4 1852796517), (.s 1 49)] h n fun v74 h n =>
 cf 28 [(.s 3 6447460), (.s 1 49)] h n fun v75 h n =>
 evBuildSl tbx 30 2 [(0, v74), (1, v75)] h n fun v76 h n =>
 cf 27 [(.s 1 97), (.s 1 49), v76] h n fun v77 h n =>
 evStore tbx 37 v16 v77 h n fun _ h n =>
 kk20 (v5, v11, v16, (.i .i64 14), ()) h n) (
 evBin2 tbx .eql 22 v18 (.i .u64 2) fun v78 =>
 brB v78 (
 cf 28 [(.s 3 6447460), (.s 1 49)] h n fun v79 h n =>
 cf 28 [(.s 4 1852796517), (.s 1 49)] h n fun v80 h n =>
 evBuildSl tbx 30 2 [(0, v79), (1, v80)] h n fun v81 h n =>
 cf 27 [(.s 1 97), (.s 1 49), v81] h n fun v82 h n =>
 evStore tbx 37 v16 v82 h n fun _ h n =>
 kk20 (v5, v11, v16, (.i .i64 6), ()) h n) (
 evBin2 tbx .eql 22 v18 (.i .u64 3) fun v83 =>
 brB v83 (
 cf 28 [(.s 3 6447460), (.s 1 49)] h n fun v84 h n =>
 cf 28 [(.s 1 99), (.s 4 1530014761)] h n fun v85 h n =>
 evBuildSl tbx 30 2 [(0, v84), (1, v85)] h n fun v86 h n =>
 cf 27 [(.s 1 97), (.s 1 49), v86] h n fun v87 h n =>
 evStore tbx 37 v16 v87 h n fun _ h n =>
 kk20 (v5, v11, v16, (.i .i64 13), ()) h n) (
 evBin2 tbx .eql 22 v18 (.i .u64 4) fun v88 =>
 brB v88 (
 cf 28 [(.s 1 99), (.s 1 49)] h n fun v89 h n =>
 cf 28 [(.s 1 98), (.s 5 391667003945)] h n fun v90 h n =>
 evBuildSl tbx 30 2 [(0, v89), (1, v90)] h n fun v91 h n =>
 cf 27 [(.s 1 97), (.s 1 49), v91] h n fun v92 h n =>
 evStore tbx 37 v16 v92 h n fun _ h n =>
 kk20 (v5, v11, v16, (.i .i64 6), ()) h n) (
 evBin2 tbx .eql 22 v18 (.i .u64 5) fun v93 =>
 brB v93 (
 cf 28 [(.s 1 98), (.s 1 49)] h n fun v94 h n =>
 evAlloc tbx 51 h n fun v95 h n =>
 evStore tbx 51 v95 v94 h n fun _ h n =>
 evBuild tbx 63 [(0, (.s 1 42)), (1, (.s 3 6447460))] fun v96 =>
 evBuildSl tbx 49 1 [(0, v96)] h n fun v97 h n =>
 evFa tbx 51 7 v95 fun v98 =>
 evStore tbx 49 v98 v97 h n fun _ h n =>
 evLoad tbx 51 v95 h fun v99 =>
 evLoad tbx 51 v95 h fun w104 => cond (eqV 6 w104 v99) (
 cf 28 [(.s 1 99), (.s 1 49)] h n fun v100 h n =>
 evLoad tbx 51 v95 h fun w103 => cond (eqV 6 w103 v99) (
 evBuildSl tbx 30 2 [(0, v99), (1, v100)] h n fun v101 h n =>
 cf 27 [(.s 1 97), (.s 1 49), v101] h n fun v102 h n =>
 evStore tbx 37 v16 v102 h n fun _ h n =>
 kk20 (v5, v11, v16, (.i .i64 0), ()) h n) none) none) (
 kk20 (v5, v11, v16, (.i .i64 6), ()) h n))))))) none) none) none) none) none
noncomputable def rm9 (i : Int) : H → Id → KV → R := fun h n k => evConv2 tbx mtab 3 22 (.i .i64 i) h n fun v h n => evBin2 tbx .rem 22 v (.i .u64 7) fun v => k v h n
theorem rm9_eq (i : Int) : rm9 i = rm9 (.ofNat (uN i % 7)) := by
  funext h n k
  unfold rm9
  rw [conv_u, conv_u, rem_u, rem_u, uN_nat (Nat.lt_trans (Nat.mod_lt _ (by omega)) (by omega : 7 < 18446744073709551616)), Nat.mod_mod]
theorem s9_t (fu : Nat) (cf : CF) (i : Int) (h : H) (n : Id) (k : KV) : s9 fu cf (.i .i64 i) h n k = t9 (rm9 i) fu cf (.i .i64 i) h n k := by kernel_rfl
theorem t9_n (rm : H → Id → KV → R) (fu : Nat) (cf : CF) (x y : V) (h : H) (n : Id) (k : KV) : t9 rm fu cf x h n k = t9 rm fu cf y h n k := by kernel_rfl
theorem s9_r (fu : Nat) (cf : CF) (i : Int) (h : H) (n : Id) (k : KV) : s9 fu cf (.i .i64 i) h n k = s9 fu cf (vN (uN i % 7)) h n k := by
  rw [s9_t, rm9_eq, s9_t]
  exact t9_n _ _ _  _ _ _ _ _
theorem wv1 (s : CF → V → H → Id → KV → R) (cf : CF) (a0 : V) (h : H) (n : Id) (k : KV) : w1 s cf [a0] h n k = s cf a0 h n k := rfl
theorem s9_c (cf : CF) (i : Int) : w1 (s9 fuX) cf [(.i .i64 i)] .e n0 kEnd = w1 (s9 fuX) cf [vN (uN i % 7)] .e n0 kEnd :=
  (wv1 (s9 fuX) cf _ .e n0 kEnd).trans ((s9_r fuX cf  i .e n0 kEnd).trans (wv1 (s9 fuX) cf _ .e n0 kEnd).symm)
end Go.Proofs.Nw.X
end
section
/- printed by xl.py: function 9 returns true. -/
open Go Go.RowKit Go.Proofs
set_option maxRecDepth 100000
namespace Go.Proofs.Nw.X
open Go.Proofs.Nw.K
theorem all9 (r : Nat) (hr : r < 7) : cfY 200 9 [vN r] .e n0 kEnd = some (.b true) := by
  match r, hr with
  | 0, _ => exact c9_0
  | 1, _ => exact c9_1
  | 2, _ => exact c9_2
  | 3, _ => exact c9_3
  | 4, _ => exact c9_4
  | 5, _ => exact c9_5
  | 6, _ => exact c9_6
  | r + 7, hr => exact absurd hr (by omega)
theorem run9 (i : Int) {W : World} (hG : Gi W) : Calls Tryz.prog 9 #[.int .i64 i] W fun e W' => e = .returned (.bool true) ∧ Below W.heap.size W W' := by
  have e : ∀ vs h n k, cfY 200 9 vs h n k = w1 (s9 fuX) (cfY 199) vs h n k := fun vs h n k => by kernel_rfl
  refine law_run (us := [.int .i64 i]) (vs := [(.i .i64 i)]) (by kernel_rfl) (cfY_ok 200 9) ?_ hG ?_
  · rw [e, s9_c, ← e]; exact all9 _ (Nat.mod_lt _ (by omega))
  · exact ⟨_, _, rfl, rfl, rfl⟩
end Go.Proofs.Nw.X
end
