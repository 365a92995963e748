/- Bundle: NwXJ2. -/
import Derived.Test.YtbooikopklijdaaGreatDoorNwJ8
set_option linter.constructorNameAsVariable false
set_option linter.unusedVariables false
set_option linter.unusedSimpArgs false
set_option linter.unusedSectionVars false
section
/- printed by xg.py: seat F's functions, 2. -/
open Go Go.RowKit Go.Proofs
set_option linter.unusedVariables false
set_option maxRecDepth 100000
namespace Go.Proofs.Nw.X
open Go.Proofs.Nw.K
noncomputable def s35 (fu : Nat) (cf : CF) (a0 : V) (h : H) (n : Id) (k : KV) : R :=
 jp (fun (s1 : VT [3]) h n =>
 pc s1 fun v3 s4 =>
 cf 32 [(.s 12 31071133266037411630683874675), v3] h n fun v5 h n =>
 k v5 h n) fun kk2 =>
 lpC [0, 3, 4] (fun lo7 s6 h n =>
 pc s6 fun v8 s9 =>
 pc s9 fun v10 s11 =>
 pc s11 fun v12 s13 =>
 evLen tbx 30 v8 fun v14 =>
 evBin2 tbx .lss 3 v12 v14 fun v15 =>
 brB v15 (
 jp (fun (s16 : VT [0, 3, 4]) h n =>
 pc s16 fun v18 s19 =>
 pc s19 fun v20 s21 =>
 pc s21 fun v22 s23 =>
 evBin2 tbx .add 3 v22 (.i .i64 1) fun v24 =>
 lo7 (v18, v20, v24, ()) h n) fun kk17 =>
 evIa tbx 30 v8 v12 fun v25 =>
 evLoad tbx 51 v25 h fun v26 =>
 evAlloc tbx 51 h n fun v27 h n =>
 evStore tbx 51 v27 v26 h n fun _ h n =>
 evFa tbx 51 0 v27 fun v28 =>
 evLoad tbx 9 v28 h fun v29 =>
 evFa tbx 51 1 v27 fun v30 =>
 evLoad tbx 9 v30 h fun v31 =>
 evFa tbx 51 2 v27 fun v32 =>
 evLoad tbx 9 v32 h fun v33 =>
 evFa tbx 51 3 v27 fun v34 =>
 evLoad tbx 9 v34 h fun v35 =>
 evFa tbx 51 4 v27 fun v36 =>
 evLoad tbx 9 v36 h fun v37 =>
 evFa tbx 51 5 v27 fun v38 =>
 evLoad tbx 9 v38 h fun v39 =>
 evLoad tbx 9 v28 h fun w161 => cond (eqV 6 w161 v29) (
 evLoad tbx 9 v30 h fun w160 => cond (eqV 6 w160 v31) (
 evLoad tbx 9 v32 h fun w159 => cond (eqV 6 w159 v33) (
 evLoad tbx 9 v34 h fun w158 => cond (eqV 6 w158 v35) (
 evLoad tbx 9 v36 h fun w157 => cond (eqV 6 w157 v37) (
 evLoad tbx 9 v38 h fun w156 => cond (eqV 6 w156 v39) (
 cf 33 [(.s 7 29117745638426980), v29] h n fun v40 h n =>
 evLoad tbx 9 v30 h fun w155 => cond (eqV 6 w155 v31) (
 evLoad tbx 9 v32 h fun w154 => cond (eqV 6 w154 v33) (
 evLoad tbx 9 v34 h fun w153 => cond (eqV 6 w153 v35) (
 evLoad tbx 9 v36 h fun w152 => cond (eqV 6 w152 v37) (
 evLoad tbx 9 v38 h fun w151 => cond (eqV 6 w151 v39) (
 cf 33 [(.s 10 460180866011107895298404), v31] h n fun v41 h n =>
 evBin2 tbx .add 9 v40 v41 fun v42 =>
 evLoad tbx 9 v32 h fun w150 => cond (eqV 6 w150 v33) (
 evLoad tbx 9 v34 h fun w149 => cond (eqV 6 w149 v35) (
 evLoad tbx 9 v36 h fun w148 => cond (eqV 6 w148 v37) (
 evLoad tbx 9 v38 h fun w147 => cond (eqV 6 w147 v39) (
 cf 33 [(.s 7 33325589488824174), v33] h n fun v43 h n =>
 evBin2 tbx .add 9 v42 v43 fun v44 =>
 evLoad tbx 9 v34 h fun w146 => cond (eqV 6 w146 v35) (
 evLoad tbx 9 v36 h fun w145 => cond (eqV 6 w145 v37) (
 evLoad tbx 9 v38 h fun w144 => cond (eqV 6 w144 v39) (
 cf 33 [(.s 4 1954115685), v35] h n fun v45 h n =>
 evBin2 tbx .add 9 v44 v45 fun v46 =>
 evLoad tbx 9 v36 h fun w143 => cond (eqV 6 w143 v37) (
 evLoad tbx 9 v38 h fun w142 => cond (eqV 6 w142 v39) (
 cf 33 [(.s 10 469513552247196035409266), v37] h n fun v47 h n =>
 evBin2 tbx .add 9 v46 v47 fun v48 =>
 evLoad tbx 9 v38 h fun w141 => cond (eqV 6 w141 v39) (
 cf 33 [(.s 5 495589486693), v39] h n fun v49 h n =>
 evBin2 tbx .add 9 v48 v49 fun v50 =>
 jp (fun (s51 : VT [0, 3, 4, 5, 6]) h n =>
 pc s51 fun v53 s54 =>
 pc s54 fun v55 s56 =>
 pc s56 fun v57 s58 =>
 pc s58 fun v59 s60 =>
 pc s60 fun v61 s62 =>
 jp (fun (s63 : VT [0, 3, 4, 6, 7]) h n =>
 pc s63 fun v65 s66 =>
 pc s66 fun v67 s68 =>
 pc s68 fun v69 s70 =>
 pc s70 fun v71 s72 =>
 pc s72 fun v73 s74 =>
 cf 32 [(.s 10 479179788288925102993011), v73] h n fun v75 h n =>
 evBin2 tbx .add 9 v71 v75 fun v76 =>
 cf 32 [(.s 10 474107868439291559306105), v76] h n fun v77 h n =>
 evBin2 tbx .add 9 v67 v77 fun v78 =>
 kk17 (v65, v78, v69, ()) h n) fun kk64 =>
 lpC [0, 3, 4, 5, 6, 7, 8] (fun lo80 s79 h n =>
 pc s79 fun v81 s82 =>
 pc s82 fun v83 s84 =>
 pc s84 fun v85 s86 =>
 pc s86 fun v87 s88 =>
 pc s88 fun v89 s90 =>
 pc s90 fun v91 s92 =>
 pc s92 fun v93 s94 =>
 evFa tbx 51 7 v87 fun v95 =>
 evLoad tbx 49 v95 h fun v96 =>
 evLen tbx 49 v96 fun v97 =>
 evBin2 tbx .lss 3 v93 v97 fun v98 =>
 brB v98 (
 jp (fun (s99 : VT [0, 3, 4, 5, 6, 7, 8]) h n =>
 pc s99 fun v101 s102 =>
 pc s102 fun v103 s104 =>
 pc s104 fun v105 s106 =>
 pc s106 fun v107 s108 =>
 pc s108 fun v109 s110 =>
 pc s110 fun v111 s112 =>
 pc s112 fun v113 s114 =>
 evBin2 tbx .add 3 v113 (.i .i64 1) fun v115 =>
 lo80 (v101, v103, v105, v107, v109, v111, v115, ()) h n) fun kk100 =>
 evFa tbx 51 7 v87 fun v116 =>
 evLoad tbx 49 v116 h fun v117 =>
 evIa tbx 49 v117 v93 fun v118 =>
 evFa tbx 63 0 v118 fun v119 =>
 evLoad tbx 9 v119 h fun v120 =>
 evFa tbx 51 7 v87 fun v121 =>
 evLoad tbx 49 v121 h fun v122 =>
 evIa tbx 49 v122 v93 fun v123 =>
 evFa tbx 63 1 v123 fun v124 =>
 evLoad tbx 9 v124 h fun v125 =>
 evLoad tbx 49 v116 h fun w136 => cond (eqV 6 w136 v117) (
 evLoad tbx 9 v119 h fun w135 => cond (eqV 6 w135 v120) (
 evLoad tbx 49 v121 h fun w134 => cond (eqV 6 w134 v122) (
 evLoad tbx 9 v124 h fun w133 => cond (eqV 6 w133 v125) (
 cf 33 [(.s 7 29117745638426980), v120] h n fun v126 h n =>
 evLoad tbx 49 v121 h fun w132 => cond (eqV 6 w132 v122) (
 evLoad tbx 9 v124 h fun w131 => cond (eqV 6 w131 v125) (
 cf 33 [(.s 10 460180866011107895298404), v125] h n fun v127 h n =>
 evBin2 tbx .add 9 v126 v127 fun v128 =>
 cf 32 [(.s 9 1871796048003613683566), v128] h n fun v129 h n =>
 evBin2 tbx .add 9 v91 v129 fun v130 =>
 kk100 (v81, v83, v85, v87, v89, v130, v93, ()) h n) none) none) none) none) none) none) (
 kk64 (v81, v83, v85, v89, v91, ()) h n)) fu (v53, v55, v57, v59, v61, (.s 0 0), (.i .i64 0), ()) h n) fun kk52 =>
 evFa tbx 51 6 v27 fun v137 =>
 evLoad tbx 4 v137 h fun v138 =>
 brB v138 (
 cf 33 [(.s 8 8030046131791487340), (.s 4 1953658213)] h n fun v139 h n =>
 evBin2 tbx .add 9 v50 v139 fun v140 =>
 kk52 (v8, v10, v12, v27, v140, ()) h n) (
 kk52 (v8, v10, v12, v27, v50, ()) h n)) none) none) none) none) none) none) none) none) none) none) none) none) none) none) none) none) none) none) none) none) none) (
 kk2 (v10, ()) h n)) fu (a0, (.s 0 0), (.i .i64 0), ()) h n
noncomputable def e35 : FE := ⟨Tryz.f35, bd Tryz.f35, [0], [2], (.q .z (.q .z (.q (.q .z (.b [3] (.l [0, 3, 4] (.q (.q .z (.c .z .z)) (.q (.b [0, 3, 4] (.q .z (.q .z (.s [0, 3, 4, 5, 6] (.q .z (.c .z .z)) (.q .z (.q (.q .z (.b [0, 3, 4, 6, 7] (.l [0, 3, 4, 5, 6, 7, 8] (.q (.q .z (.c .z .z)) (.q (.b [0, 3, 4, 5, 6, 7, 8] .z) .z))))) .z)))))) .z))))) (.q .z .z))))⟩
theorem q35 (fu : Nat) (cf : CF) (a0 : V) (h : H) (n : Id) (k : KV) : evF fu cf e35 [a0] h n k = s35 fu cf a0 h n k := by kernel_rfl
theorem p35 : PfOk Tryz.prog tbx mtab 35 (w1 (s35 fuX)) := pfo e35 Tryz.func35 (by kernel_rfl) (w1_ok (q35 fuX))
noncomputable def s36 (fu : Nat) (cf : CF) (a0 a1 : V) (h : H) (n : Id) (k : KV) : R :=
 evLen tbx 79 a0 fun v1 =>
 evConv2 tbx mtab 3 22 v1 h n fun v2 h n =>
 cf 54 [v2] h n fun v3 h n =>
 cf 53 [a0, (.i .i64 0), v1, v3, a1] h n fun v4 h n =>
 k (.tp []) h n
noncomputable def e36 : FE := ⟨Tryz.f36, bd Tryz.f36, [0, 1], [], (.q .z .z)⟩
theorem q36 (fu : Nat) (cf : CF) (a0 a1 : V) (h : H) (n : Id) (k : KV) : evF fu cf e36 [a0, a1] h n k = s36 fu cf a0 a1 h n k := by kernel_rfl
theorem p36 : PfOk Tryz.prog tbx mtab 36 (w2 (s36 fuX)) := pfo e36 Tryz.func36 (by kernel_rfl) (w2_ok (q36 fuX))
noncomputable def s37 (fu : Nat) (cf : CF) (a0 a1 : V) (h : H) (n : Id) (k : KV) : R :=
 evBox a0 h n fun v1 h n =>
 evBox a1 h n fun v2 h n =>
 evFa tbx 24 0 v1 fun v3 =>
 evLoad tbx 9 v3 h fun v4 =>
 evFa tbx 24 0 v2 fun v5 =>
 evLoad tbx 9 v5 h fun v6 =>
 evFa tbx 24 1 v1 fun v7 =>
 evLoad tbx 9 v7 h fun v8 =>
 evFa tbx 24 1 v2 fun v9 =>
 evLoad tbx 9 v9 h fun v10 =>
 evFa tbx 24 2 v1 fun v11 =>
 evLoad tbx 9 v11 h fun v12 =>
 evFa tbx 24 2 v2 fun v13 =>
 evLoad tbx 9 v13 h fun v14 =>
 evFa tbx 24 2 v1 fun v15 =>
 evLoad tbx 9 v15 h fun v16 =>
 evFa tbx 24 2 v2 fun v17 =>
 evLoad tbx 9 v17 h fun v18 =>
 evLoad tbx 9 v3 h fun w44 => cond (eqV 6 w44 v4) (
 evLoad tbx 9 v5 h fun w43 => cond (eqV 6 w43 v6) (
 evLoad tbx 9 v7 h fun w42 => cond (eqV 6 w42 v8) (
 evLoad tbx 9 v9 h fun w41 => cond (eqV 6 w41 v10) (
 evLoad tbx 9 v11 h fun w40 => cond (eqV 6 w40 v12) (
 evLoad tbx 9 v13 h fun w39 => cond (eqV 6 w39 v14) (
 evLoad tbx 9 v15 h fun w38 => cond (eqV 6 w38 v16) (
 evLoad tbx 9 v17 h fun w37 => cond (eqV 6 w37 v18) (
 cf 56 [v4, v6] h n fun v19 h n =>
 evLoad tbx 9 v7 h fun w36 => cond (eqV 6 w36 v8) (
 evLoad tbx 9 v9 h fun w35 => cond (eqV 6 w35 v10) (
 evLoad tbx 9 v11 h fun w34 => cond (eqV 6 w34 v12) (
 evLoad tbx 9 v13 h fun w33 => cond (eqV 6 w33 v14) (
 evLoad tbx 9 v15 h fun w32 => cond (eqV 6 w32 v16) (
 evLoad tbx 9 v17 h fun w31 => cond (eqV 6 w31 v18) (
 cf 56 [v8, v10] h n fun v20 h n =>
 evLoad tbx 9 v11 h fun w30 => cond (eqV 6 w30 v12) (
 evLoad tbx 9 v13 h fun w29 => cond (eqV 6 w29 v14) (
 evLoad tbx 9 v15 h fun w28 => cond (eqV 6 w28 v16) (
 evLoad tbx 9 v17 h fun w27 => cond (eqV 6 w27 v18) (
 cf 57 [v12, v14] h n fun v21 h n =>
 evLoad tbx 9 v15 h fun w26 => cond (eqV 6 w26 v16) (
 evLoad tbx 9 v17 h fun w25 => cond (eqV 6 w25 v18) (
 cf 56 [v16, v18] h n fun v22 h n =>
 evBuildSl tbx 149 4 [(0, v19), (1, v20), (2, v21), (3, v22)] h n fun v23 h n =>
 cf 55 [v23] h n fun v24 h n =>
 k v24 h n) none) none) none) none) none) none) none) none) none) none) none) none) none) none) none) none) none) none) none) none
noncomputable def e37 : FE := ⟨Tryz.f37, bd Tryz.f37, [0, 1], [4], (.q .z (.q .z .z))⟩
theorem q37 (fu : Nat) (cf : CF) (a0 a1 : V) (h : H) (n : Id) (k : KV) : evF fu cf e37 [a0, a1] h n k = s37 fu cf a0 a1 h n k := by kernel_rfl
theorem p37 : PfOk Tryz.prog tbx mtab 37 (w2 (s37 fuX)) := pfo e37 Tryz.func37 (by kernel_rfl) (w2_ok (q37 fuX))
noncomputable def s38 (fu : Nat) (cf : CF) (a0 : V) (h : H) (n : Id) (k : KV) : R :=
 evBox a0 h n fun v1 h n =>
 evFa tbx 24 0 v1 fun v2 =>
 evLoad tbx 9 v2 h fun v3 =>
 cf 58 [v3] h n fun v4 h n =>
 jp (fun (v5 : V) h n =>
 jp (fun (v7 : V) h n =>
 jp (fun (v9 : V) h n =>
 evPick v4 v9 (.b false) fun v11 =>
 jp (fun (v12 : V) h n =>
 jp (fun (v14 : V) h n =>
 jp (fun (v16 : V) h n =>
 evPick v11 v16 (.b false) fun v18 =>
 jp (fun (v19 : V) h n =>
 jp (fun (v21 : V) h n =>
 jp (fun (v23 : V) h n =>
 jp (fun (v25 : V) h n =>
 evPick v18 v25 (.b false) fun v27 =>
 k v27 h n) fun kk26 =>
 gdB v18 true ((evUn .not v23 fun v => kk26 v h n)) (kk26 (.tp []) h n)) fun kk24 =>
 gdB v18 true ((cf 60 [v21, (.s 1 58)] h n kk24)) (kk24 (.tp []) h n)) fun kk22 =>
 gdB v18 true ((evLoad tbx 9 v19 h fun v => kk22 v h n)) (kk22 (.tp []) h n)) fun kk20 =>
 gdB v18 true ((evFa tbx 24 2 v1 fun v => kk20 v h n)) (kk20 (.tp []) h n)) fun kk17 =>
 gdB v11 true ((cf 59 [v14] h n kk17)) (kk17 (.tp []) h n)) fun kk15 =>
 gdB v11 true ((evLoad tbx 9 v12 h fun v => kk15 v h n)) (kk15 (.tp []) h n)) fun kk13 =>
 gdB v11 true ((evFa tbx 24 2 v1 fun v => kk13 v h n)) (kk13 (.tp []) h n)) fun kk10 =>
 gdB v4 true ((cf 58 [v7] h n kk10)) (kk10 (.tp []) h n)) fun kk8 =>
 gdB v4 true ((evLoad tbx 9 v5 h fun v => kk8 v h n)) (kk8 (.tp []) h n)) fun kk6 =>
 gdB v4 true ((evFa tbx 24 1 v1 fun v => kk6 v h n)) (kk6 (.tp []) h n)
noncomputable def e38 : FE := ⟨Tryz.f38, bd Tryz.f38, [0], [2], (.q .z (.q .z .z))⟩
theorem q38 (fu : Nat) (cf : CF) (a0 : V) (h : H) (n : Id) (k : KV) : evF fu cf e38 [a0] h n k = s38 fu cf a0 h n k := by kernel_rfl
theorem p38 : PfOk Tryz.prog tbx mtab 38 (w1 (s38 fuX)) := pfo e38 Tryz.func38 (by kernel_rfl) (w1_ok (q38 fuX))
noncomputable def s39 (fu : Nat) (cf : CF) (a0 a1 : V) (h : H) (n : Id) (k : KV) : R :=
 evBox a1 h n fun v1 h n =>
 evLoad tbx 24 v1 h fun v2 =>
 cf 61 [a0, v2] h n fun v3 h n =>
 evBin2 tbx .geq 3 v3 (.i .i64 0) fun v4 =>
 k v4 h n
noncomputable def e39 : FE := ⟨Tryz.f39, bd Tryz.f39, [0, 1], [4], (.q .z (.q .z .z))⟩
theorem q39 (fu : Nat) (cf : CF) (a0 a1 : V) (h : H) (n : Id) (k : KV) : evF fu cf e39 [a0, a1] h n k = s39 fu cf a0 a1 h n k := by kernel_rfl
theorem p39 : PfOk Tryz.prog tbx mtab 39 (w2 (s39 fuX)) := pfo e39 Tryz.func39 (by kernel_rfl) (w2_ok (q39 fuX))
noncomputable def s40 (fu : Nat) (cf : CF) (a0 a1 : V) (h : H) (n : Id) (k : KV) : R :=
 evBox a1 h n fun v1 h n =>
 evBin2 tbx .eql 27 a0 .np fun v2 =>
 brB v2 (
 k (.tp [(.s 0 0), (.b false)]) h n) (
 evNc' a0 fun v3 =>
 evFa tbx 81 0 v3 fun v4 =>
 evLoad tbx 77 v4 h fun v5 =>
 evLoad tbx 24 v1 h fun v6 =>
 evLook tbx mtab 77 v5 v6 true h fun v7 =>
 evExt 0 v7 fun v8 =>
 evExt 1 v7 fun v9 =>
 evLoad tbx 77 v4 h fun w12 => cond (eqV 6 w12 v5) (
 evLoad tbx 24 v1 h fun w11 => cond (eqV 6 w11 v6) (
 evLook tbx mtab 77 v5 v6 true h fun w10 => cond (eqV 6 w10 v7) (
 k (.tp [v8, v9]) h n) none) none) none)
noncomputable def e40 : FE := ⟨Tryz.f40, bd Tryz.f40, [0, 1], [4, 5], (.q .z (.q (.q .z (.c (.q .z .z) .z)) (.q .z (.q .z .z))))⟩
theorem q40 (fu : Nat) (cf : CF) (a0 a1 : V) (h : H) (n : Id) (k : KV) : evF fu cf e40 [a0, a1] h n k = s40 fu cf a0 a1 h n k := by kernel_rfl
theorem p40 : PfOk Tryz.prog tbx mtab 40 (w2 (s40 fuX)) := pfo e40 Tryz.func40 (by kernel_rfl) (w2_ok (q40 fuX))
noncomputable def s41 (fu : Nat) (cf : CF) (a0 : V) (h : H) (n : Id) (k : KV) : R :=
 evAlloc tbx 32 h n fun v1 h n =>
 cf 62 [a0] h n fun v2 h n =>
 evExt 0 v2 fun v3 =>
 evExt 1 v2 fun v4 =>
 evBin2 tbx .neq 33 v4 (.i .i64 0) fun v5 =>
 brB v5 (
 evBuild tbx 32 [] fun v6 =>
 evStore tbx 32 v1 v6 h n fun _ h n =>
 evLoad tbx 32 v1 h fun v7 =>
 k (.tp [v7, v4]) h n) (
 cf 63 [v3] h n fun v8 h n =>
 evExt 0 v8 fun v9 =>
 evExt 1 v8 fun v10 =>
 evStore tbx 32 v1 v9 h n fun _ h n =>
 evLoad tbx 32 v1 h fun v11 =>
 k (.tp [v11, v10]) h n)
noncomputable def e41 : FE := ⟨Tryz.f41, bd Tryz.f41, [0], [2, 3], (.q .z (.q .z (.q (.q .z (.c (.q .z .z) .z)) (.q .z .z))))⟩
theorem q41 (fu : Nat) (cf : CF) (a0 : V) (h : H) (n : Id) (k : KV) : evF fu cf e41 [a0] h n k = s41 fu cf a0 h n k := by kernel_rfl
theorem p41 : PfOk Tryz.prog tbx mtab 41 (w1 (s41 fuX)) := pfo e41 Tryz.func41 (by kernel_rfl) (w1_ok (q41 fuX))
noncomputable def s42 (fu : Nat) (cf : CF) (a0 : V) (h : H) (n : Id) (k : KV) : R :=
 evLen tbx 71 a0 fun v1 =>
 jp (fun (s2 : VT [3]) h n =>
 pc s2 fun v4 s5 =>
 k v4 h n) fun kk3 =>
 lpC [3, 6, 7, 8] (fun lo7 s6 h n =>
 pc s6 fun v8 s9 =>
 pc s9 fun v10 s11 =>
 pc s11 fun v12 s13 =>
 pc s13 fun v14 s15 =>
 evBin2 tbx .lss 3 v14 v12 fun v16 =>
 brB v16 (
 jp (fun (s17 : VT [3, 6, 7, 8]) h n =>
 pc s17 fun v19 s20 =>
 pc s20 fun v21 s22 =>
 pc s22 fun v23 s24 =>
 pc s24 fun v25 s26 =>
 evBin2 tbx .add 3 v25 (.i .i64 1) fun v27 =>
 lo7 (v19, v21, v23, v27, ()) h n) fun kk18 =>
 evIa tbx 71 v10 v14 fun v28 =>
 evLoad tbx 9 v28 h fun v29 =>
 evBin2 tbx .neq 9 v29 v8 fun v30 =>
 brB v30 (
 k v29 h n) (
 kk18 (v8, v10, v12, v14, ()) h n)) (
 kk3 (v8, ()) h n)) fu ((.s 0 0), a0, v1, (.i .i64 0), ()) h n
noncomputable def e42 : FE := ⟨Tryz.f42, bd Tryz.f42, [0], [2], (.q .z (.q .z (.q (.q .z (.b [3] (.l [3, 6, 7, 8] (.q .z (.q (.c .z .z) (.q (.b [3, 6, 7, 8] (.q .z (.q .z (.c (.q .z .z) .z)))) .z)))))) (.q .z .z))))⟩
theorem q42 (fu : Nat) (cf : CF) (a0 : V) (h : H) (n : Id) (k : KV) : evF fu cf e42 [a0] h n k = s42 fu cf a0 h n k := by kernel_rfl
theorem p42 : PfOk Tryz.prog tbx mtab 42 (w1 (s42 fuX)) := pfo e42 Tryz.func42 (by kernel_rfl) (w1_ok (q42 fuX))
noncomputable def s44 (fu : Nat) (cf : CF) (a0 : V) (h : H) (n : Id) (k : KV) : R :=
 evMkMap h n fun v1 h n =>
 evBuild tbx 122 [(0, a0), (1, v1)] fun v2 =>
 evBox v2 h n fun v3 h n =>
 k v3 h n
noncomputable def e44 : FE := ⟨Tryz.f44, bd Tryz.f44, [0], [2], (.q .z (.q .z .z))⟩
theorem q44 (fu : Nat) (cf : CF) (a0 : V) (h : H) (n : Id) (k : KV) : evF fu cf e44 [a0] h n k = s44 fu cf a0 h n k := by kernel_rfl
theorem p44 : PfOk Tryz.prog tbx mtab 44 (w1 (s44 fuX)) := pfo e44 Tryz.func44 (by kernel_rfl) (w1_ok (q44 fuX))
noncomputable def s45 (fu : Nat) (cf : CF) (a0 a1 : V) (h : H) (n : Id) (k : KV) : R :=
 evBox a1 h n fun v1 h n =>
 evAlloc tbx 32 h n fun v2 h n =>
 evLoad tbx 24 v1 h fun v3 =>
 cf 65 [a0, v3, .ns] h n fun v4 h n =>
 evExt 0 v4 fun v5 =>
 evExt 1 v4 fun v6 =>
 evAlloc tbx 124 h n fun v7 h n =>
 evStore tbx 124 v7 v5 h n fun _ h n =>
 evBin2 tbx .neq 33 v6 (.i .i64 0) fun v8 =>
 brB v8 (
 evBuild tbx 32 [] fun v9 =>
 evStore tbx 32 v2 v9 h n fun _ h n =>
 evLoad tbx 32 v2 h fun v10 =>
 k (.tp [v10, v6]) h n) (
 evFa tbx 124 0 v7 fun v11 =>
 evLoad tbx 32 v11 h fun v12 =>
 evAlloc tbx 32 h n fun v13 h n =>
 evStore tbx 32 v13 v12 h n fun _ h n =>
 evFa tbx 32 5 v13 fun v14 =>
 evLoad tbx 29 v14 h fun v15 =>
 evFa tbx 32 6 v13 fun v16 =>
 evLoad tbx 30 v16 h fun v17 =>
 evFa tbx 32 7 v13 fun v18 =>
 evLoad tbx 30 v18 h fun v19 =>
 evLoad tbx 29 v14 h fun w33 => cond (eqV 6 w33 v15) (
 evLoad tbx 30 v16 h fun w32 => cond (eqV 6 w32 v17) (
 evLoad tbx 30 v18 h fun w31 => cond (eqV 6 w31 v19) (
 cf 66 [v15] h n fun v20 h n =>
 evFa tbx 32 5 v13 fun v21 =>
 evLoad tbx 30 v16 h fun w30 => cond (eqV 6 w30 v17) (
 evLoad tbx 30 v18 h fun w29 => cond (eqV 6 w29 v19) (
 cf 67 [v17] h n fun v22 h n =>
 evLoad tbx 30 v18 h fun w28 => cond (eqV 6 w28 v19) (
 cf 67 [v19] h n fun v23 h n =>
 evStore tbx 29 v21 v20 h n fun _ h n =>
 evFa tbx 32 6 v13 fun v24 =>
 evStore tbx 30 v24 v22 h n fun _ h n =>
 evFa tbx 32 7 v13 fun v25 =>
 evStore tbx 30 v25 v23 h n fun _ h n =>
 evLoad tbx 32 v13 h fun v26 =>
 evStore tbx 32 v2 v26 h n fun _ h n =>
 evLoad tbx 32 v2 h fun v27 =>
 k (.tp [v27, (.i .i64 0)]) h n) none) none) none) none) none) none)
noncomputable def e45 : FE := ⟨Tryz.f45, bd Tryz.f45, [0, 1], [4, 5], (.q .z (.q .z (.q (.q .z (.c (.q .z .z) .z)) (.q .z (.q .z (.q .z .z))))))⟩
theorem q45 (fu : Nat) (cf : CF) (a0 a1 : V) (h : H) (n : Id) (k : KV) : evF fu cf e45 [a0, a1] h n k = s45 fu cf a0 a1 h n k := by kernel_rfl
theorem p45 : PfOk Tryz.prog tbx mtab 45 (w2 (s45 fuX)) := pfo e45 Tryz.func45 (by kernel_rfl) (w2_ok (q45 fuX))
noncomputable def s46 (fu : Nat) (cf : CF) (a0 : V) (h : H) (n : Id) (k : KV) : R :=
 evBox a0 h n fun v1 h n =>
 evFa tbx 51 0 v1 fun v2 =>
 evLoad tbx 9 v2 h fun v3 =>
 evBin2 tbx .add 9 v3 (.s 1 58) fun v4 =>
 evFa tbx 51 1 v1 fun v5 =>
 evLoad tbx 9 v5 h fun v6 =>
 evBin2 tbx .add 9 v4 v6 fun v7 =>
 evBin2 tbx .add 9 v7 (.s 1 58) fun v8 =>
 evFa tbx 51 3 v1 fun v9 =>
 evLoad tbx 9 v9 h fun v10 =>
 evFa tbx 51 4 v1 fun v11 =>
 evLoad tbx 9 v11 h fun v12 =>
 evLoad tbx 9 v2 h fun w27 => cond (eqV 6 w27 v3) (
 evLoad tbx 9 v5 h fun w26 => cond (eqV 6 w26 v6) (
 evLoad tbx 9 v9 h fun w25 => cond (eqV 6 w25 v10) (
 evLoad tbx 9 v11 h fun w24 => cond (eqV 6 w24 v12) (
 evBuildSl tbx 71 2 [(0, v10), (1, (.s 3 6971762))] h n fun v13 h n =>
 evLoad tbx 9 v2 h fun w23 => cond (eqV 6 w23 v3) (
 evLoad tbx 9 v5 h fun w22 => cond (eqV 6 w22 v6) (
 evLoad tbx 9 v11 h fun w21 => cond (eqV 6 w21 v12) (
 cf 42 [v13] h n fun v14 h n =>
 evBin2 tbx .add 9 v8 v14 fun v15 =>
 evBin2 tbx .add 9 v15 (.s 1 58) fun v16 =>
 evBin2 tbx .add 9 v16 v12 fun v17 =>
 evLoad tbx 9 v2 h fun w20 => cond (eqV 6 w20 v3) (
 evLoad tbx 9 v5 h fun w19 => cond (eqV 6 w19 v6) (
 evLoad tbx 9 v11 h fun w18 => cond (eqV 6 w18 v12) (
 k v17 h n) none) none) none) none) none) none) none) none) none) none
noncomputable def e46 : FE := ⟨Tryz.f46, bd Tryz.f46, [0], [2], (.q .z (.q .z .z))⟩
theorem q46 (fu : Nat) (cf : CF) (a0 : V) (h : H) (n : Id) (k : KV) : evF fu cf e46 [a0] h n k = s46 fu cf a0 h n k := by kernel_rfl
theorem p46 : PfOk Tryz.prog tbx mtab 46 (w1 (s46 fuX)) := pfo e46 Tryz.func46 (by kernel_rfl) (w1_ok (q46 fuX))
noncomputable def s47 (fu : Nat) (cf : CF) (a0 a1 a2 a3 : V) (h : H) (n : Id) (k : KV) : R :=
 evBox a1 h n fun v1 h n =>
 evNc' a0 fun v2 =>
 evFa tbx 102 0 v2 fun v3 =>
 evLoad tbx 27 v3 h fun v4 =>
 evFa tbx 51 0 v1 fun v5 =>
 evLoad tbx 9 v5 h fun v6 =>
 evFa tbx 51 1 v1 fun v7 =>
 evLoad tbx 9 v7 h fun v8 =>
 evFa tbx 51 2 v1 fun v9 =>
 evLoad tbx 9 v9 h fun v10 =>
 evLoad tbx 27 v3 h fun w90 => cond (eqV 6 w90 v4) (
 evLoad tbx 9 v5 h fun w89 => cond (eqV 6 w89 v6) (
 evLoad tbx 9 v7 h fun w88 => cond (eqV 6 w88 v8) (
 evLoad tbx 9 v9 h fun w87 => cond (eqV 6 w87 v10) (
 cf 69 [v4, v6, v8] h n fun v11 h n =>
 evLoad tbx 9 v9 h fun w86 => cond (eqV 6 w86 v10) (
 cf 68 [v11, v10] h n fun v12 h n =>
 evExt 0 v12 fun v13 =>
 evExt 1 v12 fun v14 =>
 jp (fun (s15 : VT [0, 2, 3, 5, 9]) h n =>
 pc s15 fun v17 s18 =>
 pc s18 fun v19 s20 =>
 pc s20 fun v21 s22 =>
 pc s22 fun v23 s24 =>
 pc s24 fun v25 s26 =>
 evFa tbx 51 2 v23 fun v27 =>
 evStore tbx 9 v27 v25 h n fun _ h n =>
 evLoad tbx 51 v23 h fun v28 =>
 cf 70 [v17, v28, v19] h n fun v29 h n =>
 jp (fun (s30 : VT [0, 2, 3, 5, 11]) h n =>
 pc s30 fun v32 s33 =>
 pc s33 fun v34 s35 =>
 pc s35 fun v36 s37 =>
 pc s37 fun v38 s39 =>
 pc s39 fun v40 s41 =>
 evNc' v32 fun v42 =>
 evFa tbx 102 6 v42 fun v43 =>
 evLoad tbx 100 v43 h fun v44 =>
 evLoad tbx 100 v43 h fun w64 => cond (eqV 6 w64 v44) (
 cf 71 [v32, v34, v36] h n fun v45 h n =>
 evLoad tbx 100 v43 h fun w63 => cond (eqV 6 w63 v44) (
 evBuildSl tbx 100 1 [(0, v45)] h n fun v46 h n =>
 evLoad tbx 100 v43 h fun w62 => cond (eqV 6 w62 v44) (
 evApp tbx 100 100 v44 v46 h n fun v47 h n =>
 evNc' v32 fun v48 =>
 evFa tbx 102 6 v48 fun v49 =>
 evStore tbx 100 v49 v47 h n fun _ h n =>
 evNc' v32 fun v50 =>
 evFa tbx 102 4 v50 fun v51 =>
 evLoad tbx 64 v51 h fun v52 =>
 evLoad tbx 51 v38 h fun v53 =>
 evBuild tbx 70 [(0, v34), (1, v36), (2, v53), (3, v40)] fun v54 =>
 evLoad tbx 64 v51 h fun w61 => cond (eqV 6 w61 v52) (
 evLoad tbx 51 v38 h fun w60 => cond (eqV 6 w60 v53) (
 evBuildSl tbx 64 1 [(0, v54)] h n fun v55 h n =>
 evLoad tbx 64 v51 h fun w59 => cond (eqV 6 w59 v52) (
 evApp tbx 64 64 v52 v55 h n fun v56 h n =>
 evNc' v32 fun v57 =>
 evFa tbx 102 4 v57 fun v58 =>
 evStore tbx 64 v58 v56 h n fun _ h n =>
 k (.i .i64 0) h n) none) none) none) none) none) none) fun kk31 =>
 evBin2 tbx .eql 3 v29 (.i .i64 1) fun v65 =>
 brB v65 (
 evNc' v17 fun v66 =>
 evFa tbx 102 5 v66 fun v67 =>
 evLoad tbx 99 v67 h fun v68 =>
 evLoad tbx 51 v23 h fun v69 =>
 evNc' v17 fun v70 =>
 evFa tbx 102 4 v70 fun v71 =>
 evLoad tbx 64 v71 h fun v72 =>
 evLen tbx 64 v72 fun v73 =>
 evLoad tbx 99 v67 h fun w79 => cond (eqV 6 w79 v68) (
 evLoad tbx 51 v23 h fun w78 => cond (eqV 6 w78 v69) (
 evLoad tbx 64 v71 h fun w77 => cond (eqV 6 w77 v72) (
 cf 46 [v69] h n fun v74 h n =>
 evLoad tbx 99 v67 h fun w76 => cond (eqV 6 w76 v68) (
 evLoad tbx 64 v71 h fun w75 => cond (eqV 6 w75 v72) (
 evMapUpd mtab 99 v68 v74 v73 h n fun _ h n =>
 kk31 (v17, v19, v21, v23, v29, ()) h n) none) none) none) none) none) (
 kk31 (v17, v19, v21, v23, v29, ()) h n)) fun kk16 =>
 evBin2 tbx .neq 33 v14 (.i .i64 0) fun v80 =>
 brB v80 (
 k v14 h n) (
 evNc' a0 fun v81 =>
 evFa tbx 102 4 v81 fun v82 =>
 evLoad tbx 64 v82 h fun v83 =>
 evLen tbx 64 v83 fun v84 =>
 evBin2 tbx .geq 3 v84 (.i .i64 1000) fun v85 =>
 brB v85 (
 k (.i .i64 3) h n) (
 kk16 (a0, a2, a3, v1, v13, ()) h n))) none) none) none) none) none
noncomputable def e47 : FE := ⟨Tryz.f47, bd Tryz.f47, [0, 1, 2, 3], [8], (.q .z (.q .z (.q (.b [0, 2, 3, 5, 9] (.q .z (.c (.q .z .z) (.q .z (.c (.q .z .z) .z))))) (.q .z (.q .z (.s [0, 2, 3, 5, 11] (.q .z (.c .z .z)) (.q .z (.q .z (.q .z .z)))))))))⟩
theorem q47 (fu : Nat) (cf : CF) (a0 a1 a2 a3 : V) (h : H) (n : Id) (k : KV) : evF fu cf e47 [a0, a1, a2, a3] h n k = s47 fu cf a0 a1 a2 a3 h n k := by kernel_rfl
theorem p47 : PfOk Tryz.prog tbx mtab 47 (w4 (s47 fuX)) := pfo e47 Tryz.func47 (by kernel_rfl) (w4_ok (q47 fuX))
noncomputable def s48 (fu : Nat) (cf : CF) (a0 a1 : V) (h : H) (n : Id) (k : KV) : R :=
 evNc' a0 fun v1 =>
 evFa tbx 102 4 v1 fun v2 =>
 evLoad tbx 64 v2 h fun v3 =>
 evIa tbx 64 v3 a1 fun v4 =>
 evFa tbx 70 2 v4 fun v5 =>
 evLoad tbx 51 v5 h fun v6 =>
 evAlloc tbx 51 h n fun v7 h n =>
 evStore tbx 51 v7 v6 h n fun _ h n =>
 evNc' a0 fun v8 =>
 evFa tbx 102 1 v8 fun v9 =>
 evLoad tbx 94 v9 h fun v10 =>
 evFa tbx 51 0 v7 fun v11 =>
 evLoad tbx 9 v11 h fun v12 =>
 evFa tbx 51 1 v7 fun v13 =>
 evLoad tbx 9 v13 h fun v14 =>
 evFa tbx 51 2 v7 fun v15 =>
 evLoad tbx 9 v15 h fun v16 =>
 evBuild tbx 24 [(0, v12), (1, v14), (2, v16)] fun v17 =>
 alB n fun n' => newZ tbx 32 fun x mk => 
 (fun (v18 : V) h n =>
 evLoad tbx 94 v9 h fun w73 => cond (eqV 6 w73 v10) (
 evLoad tbx 9 v11 h fun w72 => cond (eqV 6 w72 v12) (
 evLoad tbx 9 v13 h fun w71 => cond (eqV 6 w71 v14) (
 evLoad tbx 9 v15 h fun w70 => cond (eqV 6 w70 v16) (
 ckO (vId v18) h fun id x' => newZ tbx 32 fun x mk => cond (eqO x' x) (cond (eqV 6 (mk id) v18) (
 cf 45 [v10, v17] h n fun v19 h n =>
 evExt 0 v19 fun v20 =>
 evExt 1 v19 fun v21 =>
 ckO (vId v18) h fun id x' => newZ tbx 32 fun x mk => cond (eqO x' x) (cond (eqV 6 (mk id) v18) (
 evStore tbx 32 v18 v20 h n fun _ h n =>
 evBin2 tbx .neq 33 v21 (.i .i64 0) fun v22 =>
 brB v22 (
 k v21 h n) (
 evFa tbx 32 7 v18 fun v23 =>
 evLoad tbx 30 v23 h fun v24 =>
 evLen tbx 30 v24 fun v25 =>
 jp (fun (s26 : VT []) h n =>
 k (.i .i64 0) h n) fun kk27 =>
 lpC [0, 1, 5, 40, 41, 42] (fun lo29 s28 h n =>
 pc s28 fun v30 s31 =>
 pc s31 fun v32 s33 =>
 pc s33 fun v34 s35 =>
 pc s35 fun v36 s37 =>
 pc s37 fun v38 s39 =>
 pc s39 fun v40 s41 =>
 evBin2 tbx .lss 3 v40 v38 fun v42 =>
 brB v42 (
 jp (fun (s43 : VT [0, 1, 5, 40, 41, 42]) h n =>
 pc s43 fun v45 s46 =>
 pc s46 fun v47 s48 =>
 pc s48 fun v49 s50 =>
 pc s50 fun v51 s52 =>
 pc s52 fun v53 s54 =>
 pc s54 fun v55 s56 =>
 evBin2 tbx .add 3 v55 (.i .i64 1) fun v57 =>
 lo29 (v45, v47, v49, v51, v53, v57, ()) h n) fun kk44 =>
 evIa tbx 30 v36 v40 fun v58 =>
 evLoad tbx 51 v58 h fun v59 =>
 evAlloc tbx 51 h n fun v60 h n =>
 evStore tbx 51 v60 v59 h n fun _ h n =>
 evLoad tbx 51 v60 h fun v61 =>
 evLoad tbx 51 v34 h fun v62 =>
 cf 72 [v30, v61, v62] h n fun v63 h n =>
 evExt 0 v63 fun v64 =>
 evExt 1 v63 fun v65 =>
 evAlloc tbx 51 h n fun v66 h n =>
 evStore tbx 51 v66 v64 h n fun _ h n =>
 brB v65 (
 evLoad tbx 51 v66 h fun v67 =>
 cf 47 [v30, v67, v32, v40] h n fun v68 h n =>
 evBin2 tbx .neq 33 v68 (.i .i64 0) fun v69 =>
 brB v69 (
 k v68 h n) (
 kk44 (v30, v32, v34, v36, v38, v40, ()) h n)) (
 kk44 (v30, v32, v34, v36, v38, v40, ()) h n)) (
 kk27 (()) h n)) fu (a0, a1, v7, v24, v25, (.i .i64 0), ()) h n)) none) none) none) none) none) none) none) none) (mk n) (hset x n h) n'
noncomputable def e48 : FE := ⟨Tryz.f48, bd Tryz.f48, [0, 1], [4], (.q .z (.q .z (.q .z (.q (.q .z (.c (.q .z .z) .z)) (.q (.q .z (.b [] (.l [0, 1, 5, 40, 41, 42] (.q .z (.q (.c .z .z) (.q (.b [0, 1, 5, 40, 41, 42] (.q .z (.q .z (.q .z (.c (.q .z (.q .z (.c (.q .z .z) .z))) .z))))) .z)))))) (.q .z .z))))))⟩
theorem q48 (fu : Nat) (cf : CF) (a0 a1 : V) (h : H) (n : Id) (k : KV) : evF fu cf e48 [a0, a1] h n k = s48 fu cf a0 a1 h n k := by kernel_rfl
theorem p48 : PfOk Tryz.prog tbx mtab 48 (w2 (s48 fuX)) := pfo e48 Tryz.func48 (by kernel_rfl) (w2_ok (q48 fuX))
noncomputable def s49 (fu : Nat) (cf : CF) (a0 : V) (h : H) (n : Id) (k : KV) : R :=
 jp (fun (s1 : VT []) h n =>
 k (.b true) h n) fun kk2 =>
 lpC [0, 3] (fun lo4 s3 h n =>
 pc s3 fun v5 s6 =>
 pc s6 fun v7 s8 =>
 evLen tbx 71 v5 fun v9 =>
 evBin2 tbx .lss 3 v7 v9 fun v10 =>
 brB v10 (
 jp (fun (s11 : VT [0, 3]) h n =>
 pc s11 fun v13 s14 =>
 pc s14 fun v15 s16 =>
 evBin2 tbx .add 3 v15 (.i .i64 1) fun v17 =>
 lo4 (v13, v17, ()) h n) fun kk12 =>
 evIa tbx 71 v5 v7 fun v18 =>
 evLoad tbx 9 v18 h fun v19 =>
 cf 51 [v19] h n fun v20 h n =>
 evUn .not v20 fun v21 =>
 brB v21 (
 k (.b false) h n) (
 kk12 (v5, v7, ()) h n)) (
 kk2 (()) h n)) fu (a0, (.i .i64 0), ()) h n
noncomputable def e49 : FE := ⟨Tryz.f49, bd Tryz.f49, [0], [2], (.q .z (.q (.q .z (.b [] (.l [0, 3] (.q (.q .z (.c .z .z)) (.q (.b [0, 3] (.q .z (.c (.q .z .z) .z))) .z))))) (.q .z .z)))⟩
theorem q49 (fu : Nat) (cf : CF) (a0 : V) (h : H) (n : Id) (k : KV) : evF fu cf e49 [a0] h n k = s49 fu cf a0 h n k := by kernel_rfl
theorem p49 : PfOk Tryz.prog tbx mtab 49 (w1 (s49 fuX)) := pfo e49 Tryz.func49 (by kernel_rfl) (w1_ok (q49 fuX))
noncomputable def s50 (fu : Nat) (cf : CF) (a0 : V) (h : H) (n : Id) (k : KV) : R :=
 evLen tbx 9 a0 fun v1 =>
 evBin2 tbx .eql 3 v1 (.i .i64 0) fun v2 =>
 jp (fun (v3 : V) h n =>
 jp (fun (v5 : V) h n =>
 jp (fun (v7 : V) h n =>
 jp (fun (v9 : V) h n =>
 evPick v2 (.b true) v9 fun v11 =>
 brB v11 (
 k (.b false) h n) (
 jp (fun (s12 : VT []) h n =>
 k (.b true) h n) fun kk13 =>
 lpC [0, 3] (fun lo15 s14 h n =>
 pc s14 fun v16 s17 =>
 pc s17 fun v18 s19 =>
 evLen tbx 9 v16 fun v20 =>
 evBin2 tbx .lss 3 v18 v20 fun v21 =>
 brB v21 (
 jp (fun (s22 : VT [0, 3]) h n =>
 pc s22 fun v24 s25 =>
 pc s25 fun v26 s27 =>
 evBin2 tbx .add 3 v26 (.i .i64 1) fun v28 =>
 lo15 (v24, v28, ()) h n) fun kk23 =>
 evIx tbx 9 v16 v18 fun v29 =>
 cf 74 [v29] h n fun v30 h n =>
 evUn .not v30 fun v31 =>
 brB v31 (
 k (.b false) h n) (
 kk23 (v16, v18, ()) h n)) (
 kk13 (()) h n)) fu (a0, (.i .i64 0), ()) h n)) fun kk10 =>
 gdB v2 false ((evUn .not v7 fun v => kk10 v h n)) (kk10 (.tp []) h n)) fun kk8 =>
 gdB v2 false ((cf 73 [v5] h n kk8)) (kk8 (.tp []) h n)) fun kk6 =>
 gdB v2 false ((evIx tbx 9 v3 (.i .i64 0) fun v => kk6 v h n)) (kk6 (.tp []) h n)) fun kk4 =>
 gdB v2 false (kk4 a0 h n) (kk4 (.tp []) h n)
noncomputable def e50 : FE := ⟨Tryz.f50, bd Tryz.f50, [0], [2], (.q .z (.q (.q .z (.c (.q .z .z) .z)) (.q (.q .z (.b [] (.l [0, 3] (.q (.q .z (.c .z .z)) (.q (.b [0, 3] (.q .z (.c (.q .z .z) .z))) .z))))) (.q .z .z))))⟩
theorem q50 (fu : Nat) (cf : CF) (a0 : V) (h : H) (n : Id) (k : KV) : evF fu cf e50 [a0] h n k = s50 fu cf a0 h n k := by kernel_rfl
theorem p50 : PfOk Tryz.prog tbx mtab 50 (w1 (s50 fuX)) := pfo e50 Tryz.func50 (by kernel_rfl) (w1_ok (q50 fuX))
noncomputable def s51 (fu : Nat) (cf : CF) (a0 : V) (h : H) (n : Id) (k : KV) : R :=
 jp (fun (s1 : VT [0]) h n =>
 pc s1 fun v3 s4 =>
 cf 76 [v3] h n fun v5 h n =>
 evBin2 tbx .eql 9 v5 v3 fun v6 =>
 jp (fun (v7 : V) h n =>
 jp (fun (v9 : V) h n =>
 jp (fun (v11 : V) h n =>
 evPick v6 v11 (.b false) fun v13 =>
 k v13 h n) fun kk12 =>
 gdB v6 true ((evBin2 tbx .leq 3 v9 (.i .i64 500) fun v => kk12 v h n)) (kk12 (.tp []) h n)) fun kk10 =>
 gdB v6 true ((evLen tbx 9 v7 fun v => kk10 v h n)) (kk10 (.tp []) h n)) fun kk8 =>
 gdB v6 true (kk8 v3 h n) (kk8 (.tp []) h n)) fun kk2 =>
 lpC [0, 3] (fun lo15 s14 h n =>
 pc s14 fun v16 s17 =>
 pc s17 fun v18 s19 =>
 evLen tbx 9 v16 fun v20 =>
 evBin2 tbx .lss 3 v18 v20 fun v21 =>
 brB v21 (
 jp (fun (s22 : VT [0, 3]) h n =>
 pc s22 fun v24 s25 =>
 pc s25 fun v26 s27 =>
 evBin2 tbx .add 3 v26 (.i .i64 1) fun v28 =>
 lo15 (v24, v28, ()) h n) fun kk23 =>
 evIx tbx 9 v16 v18 fun v29 =>
 cf 75 [v29] h n fun v30 h n =>
 evUn .not v30 fun v31 =>
 brB v31 (
 k (.b false) h n) (
 kk23 (v16, v18, ()) h n)) (
 kk2 (v16, ()) h n)) fu (a0, (.i .i64 0), ()) h n
noncomputable def e51 : FE := ⟨Tryz.f51, bd Tryz.f51, [0], [2], (.q .z (.q (.q .z (.b [0] (.l [0, 3] (.q (.q .z (.c .z .z)) (.q (.b [0, 3] (.q .z (.c (.q .z .z) .z))) .z))))) (.q .z .z)))⟩
theorem q51 (fu : Nat) (cf : CF) (a0 : V) (h : H) (n : Id) (k : KV) : evF fu cf e51 [a0] h n k = s51 fu cf a0 h n k := by kernel_rfl
theorem p51 : PfOk Tryz.prog tbx mtab 51 (w1 (s51 fuX)) := pfo e51 Tryz.func51 (by kernel_rfl) (w1_ok (q51 fuX))
noncomputable def s52 (fu : Nat) (cf : CF) (a0 : V) (h : H) (n : Id) (k : KV) : R :=
 evLen tbx 30 a0 fun v1 =>
 evBin2 tbx .gtr 3 v1 (.i .i64 200) fun v2 =>
 brB v2 (
 k (.b false) h n) (
 jp (fun (s3 : VT []) h n =>
 k (.b true) h n) fun kk4 =>
 lpC [0, 3] (fun lo6 s5 h n =>
 pc s5 fun v7 s8 =>
 pc s8 fun v9 s10 =>
 evLen tbx 30 v7 fun v11 =>
 evBin2 tbx .lss 3 v9 v11 fun v12 =>
 brB v12 (
 jp (fun (s13 : VT [0, 3]) h n =>
 pc s13 fun v15 s16 =>
 pc s16 fun v17 s18 =>
 evBin2 tbx .add 3 v17 (.i .i64 1) fun v19 =>
 lo6 (v15, v19, ()) h n) fun kk14 =>
 evIa tbx 30 v7 v9 fun v20 =>
 evLoad tbx 51 v20 h fun v21 =>
 evAlloc tbx 51 h n fun v22 h n =>
 evStore tbx 51 v22 v21 h n fun _ h n =>
 evFa tbx 51 0 v22 fun v23 =>
 evLoad tbx 9 v23 h fun v24 =>
 evFa tbx 51 1 v22 fun v25 =>
 evLoad tbx 9 v25 h fun v26 =>
 evFa tbx 51 2 v22 fun v27 =>
 evLoad tbx 9 v27 h fun v28 =>
 evFa tbx 51 3 v22 fun v29 =>
 evLoad tbx 9 v29 h fun v30 =>
 evFa tbx 51 4 v22 fun v31 =>
 evLoad tbx 9 v31 h fun v32 =>
 evFa tbx 51 5 v22 fun v33 =>
 evLoad tbx 9 v33 h fun v34 =>
 evBuildSl tbx 71 6 [(0, v24), (1, v26), (2, v28), (3, v30), (4, v32), (5, v34)] h n fun v35 h n =>
 cf 49 [v35] h n fun v36 h n =>
 evUn .not v36 fun v37 =>
 jp (fun (v38 : V) h n =>
 jp (fun (v40 : V) h n =>
 jp (fun (v42 : V) h n =>
 evPick v37 (.b true) v42 fun v44 =>
 jp (fun (v45 : V) h n =>
 jp (fun (v47 : V) h n =>
 jp (fun (v49 : V) h n =>
 evPick v44 (.b true) v49 fun v51 =>
 jp (fun (v52 : V) h n =>
 jp (fun (v54 : V) h n =>
 jp (fun (v56 : V) h n =>
 jp (fun (v58 : V) h n =>
 evPick v51 (.b true) v58 fun v60 =>
 brB v60 (
 k (.b false) h n) (
 jp (fun (s61 : VT [0, 3]) h n =>
 pc s61 fun v63 s64 =>
 pc s64 fun v65 s66 =>
 kk14 (v63, v65, ()) h n) fun kk62 =>
 lpC [0, 3, 4, 5] (fun lo68 s67 h n =>
 pc s67 fun v69 s70 =>
 pc s70 fun v71 s72 =>
 pc s72 fun v73 s74 =>
 pc s74 fun v75 s76 =>
 evFa tbx 51 7 v73 fun v77 =>
 evLoad tbx 49 v77 h fun v78 =>
 evLen tbx 49 v78 fun v79 =>
 evBin2 tbx .lss 3 v75 v79 fun v80 =>
 brB v80 (
 jp (fun (s81 : VT [0, 3, 4, 5]) h n =>
 pc s81 fun v83 s84 =>
 pc s84 fun v85 s86 =>
 pc s86 fun v87 s88 =>
 pc s88 fun v89 s90 =>
 evBin2 tbx .add 3 v89 (.i .i64 1) fun v91 =>
 lo68 (v83, v85, v87, v91, ()) h n) fun kk82 =>
 evFa tbx 51 7 v73 fun v92 =>
 evLoad tbx 49 v92 h fun v93 =>
 evIa tbx 49 v93 v75 fun v94 =>
 evLoad tbx 63 v94 h fun v95 =>
 evAlloc tbx 63 h n fun v96 h n =>
 evStore tbx 63 v96 v95 h n fun _ h n =>
 evFa tbx 63 0 v96 fun v97 =>
 evLoad tbx 9 v97 h fun v98 =>
 cf 51 [v98] h n fun v99 h n =>
 evUn .not v99 fun v100 =>
 jp (fun (v101 : V) h n =>
 jp (fun (v103 : V) h n =>
 jp (fun (v105 : V) h n =>
 jp (fun (v107 : V) h n =>
 evPick v100 (.b true) v107 fun v109 =>
 jp (fun (v110 : V) h n =>
 jp (fun (v112 : V) h n =>
 jp (fun (v114 : V) h n =>
 evPick v109 (.b true) v114 fun v116 =>
 jp (fun (v117 : V) h n =>
 jp (fun (v119 : V) h n =>
 jp (fun (v121 : V) h n =>
 evPick v116 (.b true) v121 fun v123 =>
 brB v123 (
 k (.b false) h n) (
 kk82 (v69, v71, v73, v75, ()) h n)) fun kk122 =>
 gdB v116 false ((evBin2 tbx .eql 9 v119 (.s 0 0) fun v => kk122 v h n)) (kk122 (.tp []) h n)) fun kk120 =>
 gdB v116 false ((evLoad tbx 9 v117 h fun v => kk120 v h n)) (kk120 (.tp []) h n)) fun kk118 =>
 gdB v116 false ((evFa tbx 63 1 v96 fun v => kk118 v h n)) (kk118 (.tp []) h n)) fun kk115 =>
 gdB v109 false ((evBin2 tbx .eql 9 v112 (.s 0 0) fun v => kk115 v h n)) (kk115 (.tp []) h n)) fun kk113 =>
 gdB v109 false ((evLoad tbx 9 v110 h fun v => kk113 v h n)) (kk113 (.tp []) h n)) fun kk111 =>
 gdB v109 false ((evFa tbx 63 0 v96 fun v => kk111 v h n)) (kk111 (.tp []) h n)) fun kk108 =>
 gdB v100 false ((evUn .not v105 fun v => kk108 v h n)) (kk108 (.tp []) h n)) fun kk106 =>
 gdB v100 false ((cf 51 [v103] h n kk106)) (kk106 (.tp []) h n)) fun kk104 =>
 gdB v100 false ((evLoad tbx 9 v101 h fun v => kk104 v h n)) (kk104 (.tp []) h n)) fun kk102 =>
 gdB v100 false ((evFa tbx 63 1 v96 fun v => kk102 v h n)) (kk102 (.tp []) h n)) (
 kk62 (v69, v71, ()) h n)) fu (v7, v9, v22, (.i .i64 0), ()) h n)) fun kk59 =>
 gdB v51 false ((evBin2 tbx .gtr 3 v56 (.i .i64 50) fun v => kk59 v h n)) (kk59 (.tp []) h n)) fun kk57 =>
 gdB v51 false ((evLen tbx 49 v54 fun v => kk57 v h n)) (kk57 (.tp []) h n)) fun kk55 =>
 gdB v51 false ((evLoad tbx 49 v52 h fun v => kk55 v h n)) (kk55 (.tp []) h n)) fun kk53 =>
 gdB v51 false ((evFa tbx 51 7 v22 fun v => kk53 v h n)) (kk53 (.tp []) h n)) fun kk50 =>
 gdB v44 false ((evBin2 tbx .eql 9 v47 (.s 0 0) fun v => kk50 v h n)) (kk50 (.tp []) h n)) fun kk48 =>
 gdB v44 false ((evLoad tbx 9 v45 h fun v => kk48 v h n)) (kk48 (.tp []) h n)) fun kk46 =>
 gdB v44 false ((evFa tbx 51 1 v22 fun v => kk46 v h n)) (kk46 (.tp []) h n)) fun kk43 =>
 gdB v37 false ((evBin2 tbx .eql 9 v40 (.s 0 0) fun v => kk43 v h n)) (kk43 (.tp []) h n)) fun kk41 =>
 gdB v37 false ((evLoad tbx 9 v38 h fun v => kk41 v h n)) (kk41 (.tp []) h n)) fun kk39 =>
 gdB v37 false ((evFa tbx 51 0 v22 fun v => kk39 v h n)) (kk39 (.tp []) h n)) (
 kk4 (()) h n)) fu (a0, (.i .i64 0), ()) h n)
noncomputable def e52 : FE := ⟨Tryz.f52, bd Tryz.f52, [0], [2], (.q .z (.q (.q .z (.c (.q .z .z) .z)) (.q (.q .z (.b [] (.l [0, 3] (.q (.q .z (.c .z .z)) (.q (.b [0, 3] (.q .z (.q (.q .z (.c (.q .z .z) .z)) (.q .z (.b [0, 3] (.l [0, 3, 4, 5] (.q (.q .z (.c .z .z)) (.q (.b [0, 3, 4, 5] (.q .z (.q .z (.c (.q .z .z) .z)))) .z)))))))) .z))))) (.q .z .z))))⟩
theorem q52 (fu : Nat) (cf : CF) (a0 : V) (h : H) (n : Id) (k : KV) : evF fu cf e52 [a0] h n k = s52 fu cf a0 h n k := by kernel_rfl
theorem p52 : PfOk Tryz.prog tbx mtab 52 (w1 (s52 fuX)) := pfo e52 Tryz.func52 (by kernel_rfl) (w1_ok (q52 fuX))
noncomputable def s53 (fu : Nat) (cf : CF) (a0 a1 a2 a3 a4 : V) (h : H) (n : Id) (k : KV) : R :=
 jp (fun (s1 : VT []) h n =>
 k (.tp []) h n) fun kk2 =>
 lpC [0, 1, 2, 3, 4, 10, 11] (fun lo4 s3 h n =>
 pc s3 fun v5 s6 =>
 pc s6 fun v7 s8 =>
 pc s8 fun v9 s10 =>
 pc s10 fun v11 s12 =>
 pc s12 fun v13 s14 =>
 pc s14 fun v15 s16 =>
 pc s16 fun v17 s18 =>
 jp (fun (s19 : VT [0, 1, 2, 3, 4, 10, 11]) h n =>
 pc s19 fun v21 s22 =>
 pc s22 fun v23 s24 =>
 pc s24 fun v25 s26 =>
 pc s26 fun v27 s28 =>
 pc s28 fun v29 s30 =>
 pc s30 fun v31 s32 =>
 pc s32 fun v33 s34 =>
 lo4 (v21, v23, v25, v27, v29, v31, v33, ()) h n) fun kk20 =>
 evBin2 tbx .sub 3 v9 v7 fun v35 =>
 evBin2 tbx .leq 3 v35 (.i .i64 12) fun v36 =>
 brB v36 (
 cf 77 [v5, v7, v9, v13] h n fun v37 h n =>
 k (.tp []) h n) (
 evBin2 tbx .eql 3 v11 (.i .i64 0) fun v38 =>
 brB v38 (
 cf 78 [v5, v7, v9, v13] h n fun v39 h n =>
 k (.tp []) h n) (
 jp (fun (s40 : VT [0, 1, 2, 3, 4, 10, 11, 12]) h n =>
 pc s40 fun v42 s43 =>
 pc s43 fun v44 s45 =>
 pc s45 fun v46 s47 =>
 pc s47 fun v48 s49 =>
 pc s49 fun v50 s51 =>
 pc s51 fun v52 s53 =>
 pc s53 fun v54 s55 =>
 pc s55 fun v56 s57 =>
 cf 80 [v42, v44, v46, v50] h n fun v58 h n =>
 evExt 0 v58 fun v59 =>
 evExt 1 v58 fun v60 =>
 jp (fun (s61 : VT [0, 1, 2, 3, 4, 10, 11, 12, 13, 14]) h n =>
 pc s61 fun v63 s64 =>
 pc s64 fun v65 s66 =>
 pc s66 fun v67 s68 =>
 pc s68 fun v69 s70 =>
 pc s70 fun v71 s72 =>
 pc s72 fun v73 s74 =>
 pc s74 fun v75 s76 =>
 pc s76 fun v77 s78 =>
 pc s78 fun v79 s80 =>
 pc s80 fun v81 s82 =>
 jp (fun (s83 : VT [0, 1, 2, 3, 4, 10, 11, 12, 13]) h n =>
 pc s83 fun v85 s86 =>
 pc s86 fun v87 s88 =>
 pc s88 fun v89 s90 =>
 pc s90 fun v91 s92 =>
 pc s92 fun v93 s94 =>
 pc s94 fun v95 s96 =>
 pc s96 fun v97 s98 =>
 pc s98 fun v99 s100 =>
 pc s100 fun v101 s102 =>
 evBin2 tbx .gtr 3 v87 (.i .i64 0) fun v103 =>
 jp (fun (v104 : V) h n =>
 jp (fun (v106 : V) h n =>
 jp (fun (v108 : V) h n =>
 jp (fun (v110 : V) h n =>
 jp (fun (v112 : V) h n =>
 jp (fun (v114 : V) h n =>
 jp (fun (v116 : V) h n =>
 jp (fun (v118 : V) h n =>
 jp (fun (v120 : V) h n =>
 jp (fun (v122 : V) h n =>
 thenR (wsB (wV v103 true) (evLoad tbx 24 v112 h fun w124 => cond (eqV 6 w124 v114) (okR) none) (cond (eqV 2 v114 (.tp [])) okR none)) (
 thenR (wsB (wV v103 true) (evLoad tbx 24 v120 h fun w125 => cond (eqV 6 w125 v122) (okR) none) (cond (eqV 2 v122 (.tp [])) okR none)) (
 jp (fun (v126 : V) h n =>
 jp (fun (v128 : V) h n =>
 jp (fun (v130 : V) h n =>
 evPick v103 v130 (.b false) fun v132 =>
 brB v132 (
 cf 83 [v85, v87, v89, v101, v93] h n fun v133 h n =>
 kk20 (v85, v133, v89, v91, v93, v95, v97, ()) h n) (
 cf 84 [v85, v87, v89, v101, v93] h n fun v134 h n =>
 evExt 0 v134 fun v135 =>
 evExt 1 v134 fun v136 =>
 evBin2 tbx .sub 3 v135 v87 fun v137 =>
 evBin2 tbx .sub 3 v89 v135 fun v138 =>
 evBin2 tbx .quo 3 v99 (.i .i64 8) fun v139 =>
 evBin2 tbx .lss 3 v137 v138 fun v140 =>
 brB v140 (
 evBin2 tbx .geq 3 v137 v139 fun v141 =>
 cf 53 [v85, v87, v135, v91, v93] h n fun v142 h n =>
 evBin2 tbx .add 3 v135 (.i .i64 1) fun v143 =>
 kk20 (v85, v143, v89, v91, v93, v141, v136, ()) h n) (
 evBin2 tbx .geq 3 v138 v139 fun v144 =>
 evBin2 tbx .add 3 v135 (.i .i64 1) fun v145 =>
 cf 53 [v85, v145, v89, v91, v93] h n fun v146 h n =>
 kk20 (v85, v87, v135, v91, v93, v144, v136, ()) h n))) fun kk131 =>
 wsB (wV v103 true) ((evUn .not v128 fun v => kk131 v h n)) (kk131 (.tp []) h n)) fun kk129 =>
 wsB (wV v103 true) ((evBin2 tbx .lss 3 v126 (.i .i64 0) fun v => kk129 v h n)) (kk129 (.tp []) h n)) fun kk127 =>
 wsB (wV v103 true) ((evCall cf v104 [v114, v122] h n kk127)) (kk127 (.tp []) h n)))) fun kk123 =>
 wsB (wV v103 true) ((evLoad tbx 24 v120 h fun v => kk123 v h n)) (kk123 (.tp []) h n)) fun kk121 =>
 wsB (wV v103 true) ((evIa tbx 79 v116 v118 fun v => kk121 v h n)) (kk121 (.tp []) h n)) fun kk119 =>
 wsB (wV v103 true) (kk119 v101 h n) (kk119 (.tp []) h n)) fun kk117 =>
 wsB (wV v103 true) (kk117 v85 h n) (kk117 (.tp []) h n)) fun kk115 =>
 wsB (wV v103 true) ((evLoad tbx 24 v112 h fun v => kk115 v h n)) (kk115 (.tp []) h n)) fun kk113 =>
 wsB (wV v103 true) ((evIa tbx 79 v106 v110 fun v => kk113 v h n)) (kk113 (.tp []) h n)) fun kk111 =>
 wsB (wV v103 true) ((evBin2 tbx .sub 3 v108 (.i .i64 1) fun v => kk111 v h n)) (kk111 (.tp []) h n)) fun kk109 =>
 wsB (wV v103 true) (kk109 v87 h n) (kk109 (.tp []) h n)) fun kk107 =>
 wsB (wV v103 true) (kk107 v85 h n) (kk107 (.tp []) h n)) fun kk105 =>
 wsB (wV v103 true) (kk105 v93 h n) (kk105 (.tp []) h n)) fun kk84 =>
 jp (fun (v147 : V) h n =>
 evPick v73 v147 (.b false) fun v149 =>
 jp (fun (v150 : V) h n =>
 jp (fun (v152 : V) h n =>
 evPick v149 v152 (.b false) fun v154 =>
 brB v154 (
 cf 82 [v63, v65, v67, v71] h n fun v155 h n =>
 brB v155 (
 k (.tp []) h n) (
 kk84 (v63, v65, v67, v69, v71, v73, v75, v77, v79, ()) h n)) (
 kk84 (v63, v65, v67, v69, v71, v73, v75, v77, v79, ()) h n)) fun kk153 =>
 gdB v149 true ((evBin2 tbx .eql 138 v150 (.i .i64 1) fun v => kk153 v h n)) (kk153 (.tp []) h n)) fun kk151 =>
 gdB v149 true (kk151 v81 h n) (kk151 (.tp []) h n)) fun kk148 =>
 gdB v73 true (kk148 v75 h n) (kk148 (.tp []) h n)) fun kk62 =>
 evBin2 tbx .eql 138 v60 (.i .i64 2) fun v156 =>
 brB v156 (
 cf 81 [v42, v44, v46, v50] h n fun v157 h n =>
 evBin2 tbx .sub 3 v46 (.i .i64 1) fun v158 =>
 evBin2 tbx .sub 3 v59 v44 fun v159 =>
 evBin2 tbx .sub 3 v158 v159 fun v160 =>
 kk62 (v42, v44, v46, v48, v50, v52, v54, v56, v160, (.i .i64 1), ()) h n) (
 kk62 (v42, v44, v46, v48, v50, v52, v54, v56, v59, v60, ()) h n)) fun kk41 =>
 evUn .not v15 fun v161 =>
 brB v161 (
 cf 79 [v5, v7, v9, v13] h n fun v162 h n =>
 evBin2 tbx .sub 3 v11 (.i .i64 1) fun v163 =>
 kk41 (v5, v7, v9, v163, v13, v15, v17, v35, ()) h n) (
 kk41 (v5, v7, v9, v11, v13, v15, v17, v35, ()) h n)))) fu (a0, a1, a2, a3, a4, (.b true), (.b true), ()) h n
noncomputable def e53 : FE := ⟨Tryz.f53, bd Tryz.f53, [0, 1, 2, 3, 4], [], (.q .z (.q .z (.b [] (.l [0, 1, 2, 3, 4, 10, 11] (.b [0, 1, 2, 3, 4, 10, 11] (.q .z (.q (.q .z (.c (.q .z .z) .z)) (.q (.q .z (.c (.q .z .z) .z)) (.s [0, 1, 2, 3, 4, 10, 11, 12] (.q .z (.c (.q .z .z) .z)) (.q .z (.s [0, 1, 2, 3, 4, 10, 11, 12, 13, 14] (.q .z (.c (.q .z (.q .z .z)) .z)) (.s [0, 1, 2, 3, 4, 10, 11, 12, 13] (.q .z (.c (.q .z (.c .z .z)) .z)) (.q (.q .z (.c (.q .z (.q .z .z)) .z)) (.q .z (.q .z (.q .z (.q .z (.q .z (.c (.q .z (.q .z .z)) (.q .z (.q .z .z)))))))))))))))))))))⟩
theorem q53 (fu : Nat) (cf : CF) (a0 a1 a2 a3 a4 : V) (h : H) (n : Id) (k : KV) : evF fu cf e53 [a0, a1, a2, a3, a4] h n k = s53 fu cf a0 a1 a2 a3 a4 h n k := by kernel_rfl
theorem p53 : PfOk Tryz.prog tbx mtab 53 (w5 (s53 fuX)) := pfo e53 Tryz.func53 (by kernel_rfl) (w5_ok (q53 fuX))
noncomputable def s54 (fu : Nat) (cf : CF) (a0 : V) (h : H) (n : Id) (k : KV) : R :=
 brB (.b false) (
 evConv2 tbx mtab 22 146 a0 h n fun v1 h n =>
 cf 85 [v1] h n fun v2 h n =>
 k v2 h n) (
 cf 86 [a0] h n fun v3 h n =>
 k v3 h n)
noncomputable def e54 : FE := ⟨Tryz.f54, bd Tryz.f54, [0], [2], (.q .z (.q (.c (.q .z .z) .z) (.q .z .z)))⟩
theorem q54 (fu : Nat) (cf : CF) (a0 : V) (h : H) (n : Id) (k : KV) : evF fu cf e54 [a0] h n k = s54 fu cf a0 h n k := by kernel_rfl
theorem p54 : PfOk Tryz.prog tbx mtab 54 (w1 (s54 fuX)) := pfo e54 Tryz.func54 (by kernel_rfl) (w1_ok (q54 fuX))
noncomputable def s55 (fu : Nat) (cf : CF) (a0 : V) (h : H) (n : Id) (k : KV) : R :=
 evLen tbx 149 a0 fun v1 =>
 jp (fun (s2 : VT [3]) h n =>
 pc s2 fun v4 s5 =>
 k v4 h n) fun kk3 =>
 lpC [3, 6, 7, 8] (fun lo7 s6 h n =>
 pc s6 fun v8 s9 =>
 pc s9 fun v10 s11 =>
 pc s11 fun v12 s13 =>
 pc s13 fun v14 s15 =>
 evBin2 tbx .lss 3 v14 v12 fun v16 =>
 brB v16 (
 jp (fun (s17 : VT [3, 6, 7, 8]) h n =>
 pc s17 fun v19 s20 =>
 pc s20 fun v21 s22 =>
 pc s22 fun v23 s24 =>
 pc s24 fun v25 s26 =>
 evBin2 tbx .add 3 v25 (.i .i64 1) fun v27 =>
 lo7 (v19, v21, v23, v27, ()) h n) fun kk18 =>
 evIa tbx 149 v10 v14 fun v28 =>
 evLoad tbx 3 v28 h fun v29 =>
 evBin2 tbx .neq 3 v29 v8 fun v30 =>
 brB v30 (
 k v29 h n) (
 kk18 (v8, v10, v12, v14, ()) h n)) (
 kk3 (v8, ()) h n)) fu ((.i .i64 0), a0, v1, (.i .i64 0), ()) h n
noncomputable def e55 : FE := ⟨Tryz.f55, bd Tryz.f55, [0], [2], (.q .z (.q .z (.q (.q .z (.b [3] (.l [3, 6, 7, 8] (.q .z (.q (.c .z .z) (.q (.b [3, 6, 7, 8] (.q .z (.q .z (.c (.q .z .z) .z)))) .z)))))) (.q .z .z))))⟩
theorem q55 (fu : Nat) (cf : CF) (a0 : V) (h : H) (n : Id) (k : KV) : evF fu cf e55 [a0] h n k = s55 fu cf a0 h n k := by kernel_rfl
theorem p55 : PfOk Tryz.prog tbx mtab 55 (w1 (s55 fuX)) := pfo e55 Tryz.func55 (by kernel_rfl) (w1_ok (q55 fuX))
noncomputable def s56 (fu : Nat) (cf : CF) (a0 a1 : V) (h : H) (n : Id) (k : KV) : R :=
 cf 87 [a0] h n fun v1 h n =>
 cf 87 [a1] h n fun v2 h n =>
 brB v1 (
 brB v2 (
 k (.i .i64 0) h n) (
 k (.i .i64 (-1)) h n)) (
 brB v2 (
 k (.i .i64 1) h n) (
 evBin2 tbx .lss 9 a0 a1 fun v3 =>
 brB v3 (
 k (.i .i64 (-1)) h n) (
 evBin2 tbx .gtr 9 a0 a1 fun v4 =>
 brB v4 (
 k (.i .i64 1) h n) (
 k (.i .i64 0) h n))))
noncomputable def e56 : FE := ⟨Tryz.f56, bd Tryz.f56, [0, 1], [4], (.q .z (.q .z (.q .z (.q (.q .z (.c (.q (.q .z (.c (.q .z .z) .z)) (.q .z .z)) .z)) (.q (.q .z (.c (.q .z .z) .z)) (.q (.q .z (.c (.q .z .z) .z)) (.q (.q .z (.c (.q .z .z) .z)) (.q .z .z))))))))⟩
theorem q56 (fu : Nat) (cf : CF) (a0 a1 : V) (h : H) (n : Id) (k : KV) : evF fu cf e56 [a0, a1] h n k = s56 fu cf a0 a1 h n k := by kernel_rfl
theorem p56 : PfOk Tryz.prog tbx mtab 56 (w2 (s56 fuX)) := pfo e56 Tryz.func56 (by kernel_rfl) (w2_ok (q56 fuX))
noncomputable def s57 (fu : Nat) (cf : CF) (a0 a1 : V) (h : H) (n : Id) (k : KV) : R :=
 cf 89 [a0] h n fun v1 h n =>
 cf 89 [a1] h n fun v2 h n =>
 cf 88 [v1, v2] h n fun v3 h n =>
 k v3 h n
noncomputable def e57 : FE := ⟨Tryz.f57, bd Tryz.f57, [0, 1], [4], (.q .z (.q .z .z))⟩
theorem q57 (fu : Nat) (cf : CF) (a0 a1 : V) (h : H) (n : Id) (k : KV) : evF fu cf e57 [a0, a1] h n k = s57 fu cf a0 a1 h n k := by kernel_rfl
theorem p57 : PfOk Tryz.prog tbx mtab 57 (w2 (s57 fuX)) := pfo e57 Tryz.func57 (by kernel_rfl) (w2_ok (q57 fuX))
noncomputable def s58 (fu : Nat) (cf : CF) (a0 : V) (h : H) (n : Id) (k : KV) : R :=
 jp (fun (s3 : VT [2]) h n =>
 pc s3 fun v6 s7 =>
 k v6 h n) fun kk1 =>
 jp (lpC [0] (fun lo5 s4 h n =>
 pc s4 fun v8 s9 =>
 evIx tbx 9 v8 (.i .i64 0) fun v10 =>
 cf 90 [v10] h n fun v11 h n =>
 evUn .not v11 fun v12 =>
 brB v12 (
 k (.b false) h n) (
 evSlc tbx 9 v8 (some (.i .i64 1)) none fun v13 =>
 evBin2 tbx .neq 9 v13 (.s 0 0) fun v14 =>
 brB v14 (
 lo5 (v13, ()) h n) (
 k (.b true) h n))) fu) fun lo2 =>
 evBin2 tbx .eql 9 a0 (.s 0 0) fun v15 =>
 jp (fun (v16 : V) h n =>
 jp (fun (v18 : V) h n =>
 jp (fun (v20 : V) h n =>
 evPick v15 (.b true) v20 fun v22 =>
 brB v22 (
 k (.b false) h n) (
 evIx tbx 9 a0 (.i .i64 0) fun v23 =>
 cf 90 [v23] h n fun v24 h n =>
 evUn .not v24 fun v25 =>
 brB v25 (
 k (.b false) h n) (
 evSlc tbx 9 a0 (some (.i .i64 1)) none fun v26 =>
 evBin2 tbx .neq 9 v26 (.s 0 0) fun v27 =>
 brB v27 (
 lo2 (v26, ()) h n) (
 k (.b true) h n)))) fun kk21 =>
 gdB v15 false ((evBin2 tbx .gtr 3 v18 (.i .i64 500) fun v => kk21 v h n)) (kk21 (.tp []) h n)) fun kk19 =>
 gdB v15 false ((evLen tbx 9 v16 fun v => kk19 v h n)) (kk19 (.tp []) h n)) fun kk17 =>
 gdB v15 false (kk17 a0 h n) (kk17 (.tp []) h n)
noncomputable def e58 : FE := ⟨Tryz.f58, bd Tryz.f58, [0], [2], (.q .z (.g 0 [0] [2] (.q (.q .z (.c (.q .z .z) .z)) (.q .z (.q (.q .z (.c (.q .z .z) .z)) (.q .z (.q (.q .z (.c .z .z)) (.q .z .z)))))) (.q .z (.q (.q .z (.c (.q .z .z) .z)) (.q .z (.q (.q .z (.c .z .z)) (.q .z .z)))))))⟩
theorem q58 (fu : Nat) (cf : CF) (a0 : V) (h : H) (n : Id) (k : KV) : evF fu cf e58 [a0] h n k = s58 fu cf a0 h n k := by kernel_rfl
theorem p58 : PfOk Tryz.prog tbx mtab 58 (w1 (s58 fuX)) := pfo e58 Tryz.func58 (by kernel_rfl) (w1_ok (q58 fuX))
noncomputable def s59 (fu : Nat) (cf : CF) (a0 : V) (h : H) (n : Id) (k : KV) : R :=
 evLen tbx 9 a0 fun v1 =>
 evBin2 tbx .geq 3 v1 (.i .i64 1) fun v2 =>
 jp (fun (v3 : V) h n =>
 jp (fun (v5 : V) h n =>
 jp (fun (v7 : V) h n =>
 evPick v2 v7 (.b false) fun v9 =>
 jp (fun (v10 : V) h n =>
 jp (fun (v12 : V) h n =>
 jp (fun (v14 : V) h n =>
 jp (fun (v16 : V) h n =>
 evPick v9 v16 (.b false) fun v18 =>
 k v18 h n) fun kk17 =>
 gdB v9 true ((evUn .not v14 fun v => kk17 v h n)) (kk17 (.tp []) h n)) fun kk15 =>
 gdB v9 true ((cf 91 [v12, (.fn 92 [])] h n kk15)) (kk15 (.tp []) h n)) fun kk13 =>
 gdB v9 true ((evConv2 tbx mtab 9 73 v10 h n kk13)) (kk13 (.tp []) h n)) fun kk11 =>
 gdB v9 true (kk11 a0 h n) (kk11 (.tp []) h n)) fun kk8 =>
 gdB v2 true ((evBin2 tbx .leq 3 v5 (.i .i64 100) fun v => kk8 v h n)) (kk8 (.tp []) h n)) fun kk6 =>
 gdB v2 true ((evLen tbx 9 v3 fun v => kk6 v h n)) (kk6 (.tp []) h n)) fun kk4 =>
 gdB v2 true (kk4 a0 h n) (kk4 (.tp []) h n)
noncomputable def e59 : FE := ⟨Tryz.f59, bd Tryz.f59, [0], [2], (.q .z (.q .z .z))⟩
theorem q59 (fu : Nat) (cf : CF) (a0 : V) (h : H) (n : Id) (k : KV) : evF fu cf e59 [a0] h n k = s59 fu cf a0 h n k := by kernel_rfl
theorem p59 : PfOk Tryz.prog tbx mtab 59 (w1 (s59 fuX)) := pfo e59 Tryz.func59 (by kernel_rfl) (w1_ok (q59 fuX))
noncomputable def s60 (fu : Nat) (cf : CF) (a0 a1 : V) (h : H) (n : Id) (k : KV) : R :=
 cf 94 [a0, a1] h n fun v1 h n =>
 evBin2 tbx .geq 3 v1 (.i .i64 0) fun v2 =>
 k v2 h n
noncomputable def e60 : FE := ⟨Tryz.f60, bd Tryz.f60, [0, 1], [4], (.q .z (.q .z .z))⟩
theorem q60 (fu : Nat) (cf : CF) (a0 a1 : V) (h : H) (n : Id) (k : KV) : evF fu cf e60 [a0, a1] h n k = s60 fu cf a0 a1 h n k := by kernel_rfl
theorem p60 : PfOk Tryz.prog tbx mtab 60 (w2 (s60 fuX)) := pfo e60 Tryz.func60 (by kernel_rfl) (w2_ok (q60 fuX))
noncomputable def s61 (fu : Nat) (cf : CF) (a0 a1 : V) (h : H) (n : Id) (k : KV) : R :=
 evBox a1 h n fun v1 h n =>
 evLen tbx 79 a0 fun v2 =>
 jp (fun (s3 : VT []) h n =>
 k (.i .i64 (-1)) h n) fun kk4 =>
 lpC [0, 3, 7, 8] (fun lo6 s5 h n =>
 pc s5 fun v7 s8 =>
 pc s8 fun v9 s10 =>
 pc s10 fun v11 s12 =>
 pc s12 fun v13 s14 =>
 evBin2 tbx .lss 3 v13 v11 fun v15 =>
 brB v15 (
 jp (fun (s16 : VT [0, 3, 7, 8]) h n =>
 pc s16 fun v18 s19 =>
 pc s19 fun v20 s21 =>
 pc s21 fun v22 s23 =>
 pc s23 fun v24 s25 =>
 evBin2 tbx .add 3 v24 (.i .i64 1) fun v26 =>
 lo6 (v18, v20, v22, v26, ()) h n) fun kk17 =>
 evLoad tbx 24 v9 h fun v27 =>
 evIa tbx 79 v7 v13 fun v28 =>
 evLoad tbx 24 v28 h fun v29 =>
 evBin2 tbx .eql 24 v27 v29 fun v30 =>
 evLoad tbx 24 v9 h fun w32 => cond (eqV 6 w32 v27) (
 evLoad tbx 24 v28 h fun w31 => cond (eqV 6 w31 v29) (
 brB v30 (
 k v13 h n) (
 kk17 (v7, v9, v11, v13, ()) h n)) none) none) (
 kk4 (()) h n)) fu (a0, v1, v2, (.i .i64 0), ()) h n
noncomputable def e61 : FE := ⟨Tryz.f61, bd Tryz.f61, [0, 1], [4], (.q .z (.q (.q .z (.b [] (.l [0, 3, 7, 8] (.q .z (.q (.c .z .z) (.q (.b [0, 3, 7, 8] (.q .z (.q .z (.c (.q .z .z) .z)))) .z)))))) (.q .z .z)))⟩
theorem q61 (fu : Nat) (cf : CF) (a0 a1 : V) (h : H) (n : Id) (k : KV) : evF fu cf e61 [a0, a1] h n k = s61 fu cf a0 a1 h n k := by kernel_rfl
theorem p61 : PfOk Tryz.prog tbx mtab 61 (w2 (s61 fuX)) := pfo e61 Tryz.func61 (by kernel_rfl) (w2_ok (q61 fuX))
noncomputable def s62 (fu : Nat) (cf : CF) (a0 : V) (h : H) (n : Id) (k : KV) : R :=
 cf 95 [a0] h n fun v1 h n =>
 evExt 0 v1 fun v2 =>
 evExt 1 v1 fun v3 =>
 evBin2 tbx .neq 33 v3 (.i .i64 0) fun v4 =>
 brB v4 (
 k (.tp [.ns, v3]) h n) (
 cf 96 [v2] h n fun v5 h n =>
 evExt 0 v5 fun v6 =>
 evExt 1 v5 fun v7 =>
 k (.tp [v6, v7]) h n)
noncomputable def e62 : FE := ⟨Tryz.f62, bd Tryz.f62, [0], [2, 3], (.q .z (.q .z (.q (.q .z (.c (.q .z .z) .z)) (.q .z .z))))⟩
theorem q62 (fu : Nat) (cf : CF) (a0 : V) (h : H) (n : Id) (k : KV) : evF fu cf e62 [a0] h n k = s62 fu cf a0 h n k := by kernel_rfl
theorem p62 : PfOk Tryz.prog tbx mtab 62 (w1 (s62 fuX)) := pfo e62 Tryz.func62 (by kernel_rfl) (w1_ok (q62 fuX))
noncomputable def s63 (fu : Nat) (cf : CF) (a0 : V) (h : H) (n : Id) (k : KV) : R :=
 evAlloc tbx 32 h n fun v1 h n =>
 jp (fun (s2 : VT [0, 2]) h n =>
 pc s2 fun v4 s5 =>
 pc s5 fun v6 s7 =>
 evLen tbx 114 v4 fun v8 =>
 evMkSl tbx 164 v8 v8 h n fun v9 h n =>
 evBuild tbx 166 [(0, v4), (1, v9)] fun v10 =>
 evBox v10 h n fun v11 h n =>
 evLen tbx 114 v4 fun v12 =>
 jp (fun (s13 : VT [2, 4]) h n =>
 pc s13 fun v15 s16 =>
 pc s16 fun v17 s18 =>
 evAlloc tbx 32 h n fun v19 h n =>
 evMkMap h n fun v20 h n =>
 evFa tbx 32 1 v19 fun v21 =>
 cf 99 [v17, v21] h n fun v22 h n =>
 evMapUpd mtab 177 v20 (.s 7 29117745638426980) v22 h n fun _ h n =>
 evFa tbx 32 2 v19 fun v23 =>
 cf 99 [v17, v23] h n fun v24 h n =>
 evMapUpd mtab 177 v20 (.s 10 460180866011107895298404) v24 h n fun _ h n =>
 evFa tbx 32 3 v19 fun v25 =>
 cf 99 [v17, v25] h n fun v26 h n =>
 evMapUpd mtab 177 v20 (.s 7 33325589488824174) v26 h n fun _ h n =>
 evFa tbx 32 4 v19 fun v27 =>
 cf 99 [v17, v27] h n fun v28 h n =>
 evMapUpd mtab 177 v20 (.s 9 2073052906965934108263) v28 h n fun _ h n =>
 evFa tbx 32 0 v19 fun v29 =>
 cf 100 [v17, v29] h n fun v30 h n =>
 evMapUpd mtab 177 v20 (.s 6 123563833388660) v30 h n fun _ h n =>
 evFa tbx 32 5 v19 fun v31 =>
 cf 101 [v17, v31] h n fun v32 h n =>
 evMapUpd mtab 177 v20 (.s 10 531016004935481008153971) v32 h n fun _ h n =>
 evFa tbx 32 6 v19 fun v33 =>
 cf 102 [v17, v33] h n fun v34 h n =>
 evMapUpd mtab 177 v20 (.s 20 573161243438715328014466462588970593706563694196) v34 h n fun _ h n =>
 evFa tbx 32 7 v19 fun v35 =>
 cf 103 [v17, v35] h n fun v36 h n =>
 evMapUpd mtab 177 v20 (.s 12 31071133266037411630683874675) v36 h n fun _ h n =>
 cf 98 [v17, (.i .i64 0), v20] h n fun v37 h n =>
 evFa tbx 32 2 v19 fun v38 =>
 evLoad tbx 9 v38 h fun v39 =>
 evBuildSl tbx 71 1 [(0, v39)] h n fun v40 h n =>
 cf 104 [v37, v40] h n fun v41 h n =>
 evBin2 tbx .neq 33 v41 (.i .i64 0) fun v42 =>
 brB v42 (
 evBuild tbx 32 [] fun v43 =>
 evStore tbx 32 v15 v43 h n fun _ h n =>
 evLoad tbx 32 v15 h fun v44 =>
 k (.tp [v44, v41]) h n) (
 evLoad tbx 32 v19 h fun v45 =>
 evStore tbx 32 v15 v45 h n fun _ h n =>
 evLoad tbx 32 v15 h fun v46 =>
 k (.tp [v46, (.i .i64 0)]) h n)) fun kk14 =>
 lpC [2, 4, 28, 29, 30] (fun lo48 s47 h n =>
 pc s47 fun v49 s50 =>
 pc s50 fun v51 s52 =>
 pc s52 fun v53 s54 =>
 pc s54 fun v55 s56 =>
 pc s56 fun v57 s58 =>
 evBin2 tbx .lss 3 v57 v55 fun v59 =>
 brB v59 (
 jp (fun (s60 : VT [2, 4, 28, 29, 30]) h n =>
 pc s60 fun v62 s63 =>
 pc s63 fun v64 s65 =>
 pc s65 fun v66 s67 =>
 pc s67 fun v68 s69 =>
 pc s69 fun v70 s71 =>
 evBin2 tbx .add 3 v70 (.i .i64 1) fun v72 =>
 lo48 (v62, v64, v66, v68, v72, ()) h n) fun kk61 =>
 evIa tbx 114 v53 v57 fun v73 =>
 evLoad tbx 162 v73 h fun v74 =>
 evAlloc tbx 162 h n fun v75 h n =>
 evStore tbx 162 v75 v74 h n fun _ h n =>
 evBin2 tbx .gtr 3 v57 (.i .i64 0) fun v76 =>
 jp (fun (v77 : V) h n =>
 jp (fun (v79 : V) h n =>
 jp (fun (v81 : V) h n =>
 evPick v76 v81 (.b false) fun v83 =>
 brB v83 (
 evNc' v51 fun v84 =>
 evFa tbx 166 1 v84 fun v85 =>
 evLoad tbx 164 v85 h fun v86 =>
 evFa tbx 162 0 v75 fun v87 =>
 evLoad tbx 3 v87 h fun v88 =>
 evNc' v51 fun v89 =>
 evFa tbx 166 1 v89 fun v90 =>
 evLoad tbx 164 v90 h fun v91 =>
 evFa tbx 162 0 v75 fun v92 =>
 evLoad tbx 3 v92 h fun v93 =>
 evIa tbx 164 v91 v93 fun v94 =>
 evLoad tbx 149 v94 h fun v95 =>
 evLoad tbx 164 v85 h fun w110 => cond (eqV 6 w110 v86) (
 evLoad tbx 3 v87 h fun w109 => cond (eqV 6 w109 v88) (
 evLoad tbx 164 v90 h fun w108 => cond (eqV 6 w108 v91) (
 evLoad tbx 3 v92 h fun w107 => cond (eqV 6 w107 v93) (
 evLoad tbx 149 v94 h fun w106 => cond (eqV 6 w106 v95) (
 evBuildSl tbx 149 1 [(0, v57)] h n fun v96 h n =>
 evLoad tbx 164 v85 h fun w105 => cond (eqV 6 w105 v86) (
 evLoad tbx 3 v87 h fun w104 => cond (eqV 6 w104 v88) (
 evLoad tbx 164 v90 h fun w103 => cond (eqV 6 w103 v91) (
 evLoad tbx 3 v92 h fun w102 => cond (eqV 6 w102 v93) (
 evLoad tbx 149 v94 h fun w101 => cond (eqV 6 w101 v95) (
 evApp tbx 149 149 v95 v96 h n fun v97 h n =>
 evIa tbx 164 v86 v88 fun v98 =>
 evLoad tbx 164 v85 h fun w100 => cond (eqV 6 w100 v86) (
 evLoad tbx 3 v87 h fun w99 => cond (eqV 6 w99 v88) (
 evStore tbx 149 v98 v97 h n fun _ h n =>
 kk61 (v49, v51, v53, v55, v57, ()) h n) none) none) none) none) none) none) none) none) none) none) none) none) (
 kk61 (v49, v51, v53, v55, v57, ()) h n)) fun kk82 =>
 gdB v76 true ((evBin2 tbx .neq 9 v79 (.s 0 0) fun v => kk82 v h n)) (kk82 (.tp []) h n)) fun kk80 =>
 gdB v76 true ((evLoad tbx 9 v77 h fun v => kk80 v h n)) (kk80 (.tp []) h n)) fun kk78 =>
 gdB v76 true ((evFa tbx 162 1 v75 fun v => kk78 v h n)) (kk78 (.tp []) h n)) (
 kk14 (v49, v51, ()) h n)) fu (v6, v11, v4, v12, (.i .i64 0), ()) h n) fun kk3 =>
 cf 97 [a0] h n fun v111 h n =>
 evUn .not v111 fun v112 =>
 brB v112 (
 evBuild tbx 32 [] fun v113 =>
 evStore tbx 32 v1 v113 h n fun _ h n =>
 evLoad tbx 32 v1 h fun v114 =>
 k (.tp [v114, (.i .i64 6)]) h n) (
 evIa tbx 114 a0 (.i .i64 0) fun v115 =>
 evFa tbx 162 1 v115 fun v116 =>
 evLoad tbx 9 v116 h fun v117 =>
 evBin2 tbx .neq 9 v117 (.s 7 31651020243559284) fun v118 =>
 brB v118 (
 evBuild tbx 32 [] fun v119 =>
 evStore tbx 32 v1 v119 h n fun _ h n =>
 evLoad tbx 32 v1 h fun v120 =>
 k (.tp [v120, (.i .i64 8)]) h n) (
 kk3 (a0, v1, ()) h n))
noncomputable def e63 : FE := ⟨Tryz.f63, bd Tryz.f63, [0], [2, 3], (.q .z (.q (.b [0, 2] (.q .z (.c (.q .z .z) (.q .z (.c (.q .z .z) .z))))) (.q .z (.q (.q .z (.b [2, 4] (.l [2, 4, 28, 29, 30] (.q .z (.q (.c .z .z) (.q (.b [2, 4, 28, 29, 30] (.q .z (.q .z (.c .z .z)))) .z)))))) (.q .z (.q .z (.q (.q .z (.q .z (.c (.q .z .z) .z))) (.q .z .z))))))))⟩
theorem q63 (fu : Nat) (cf : CF) (a0 : V) (h : H) (n : Id) (k : KV) : evF fu cf e63 [a0] h n k = s63 fu cf a0 h n k := by kernel_rfl
theorem p63 : PfOk Tryz.prog tbx mtab 63 (w1 (s63 fuX)) := pfo e63 Tryz.func63 (by kernel_rfl) (w1_ok (q63 fuX))
noncomputable def s65 (fu : Nat) (cf : CF) (a0 a1 a2 : V) (h : H) (n : Id) (k : KV) : R :=
 evBox a1 h n fun v1 h n =>
 evAlloc tbx 124 h n fun v2 h n =>
 jp (fun (s3 : VT [0, 2, 4, 6]) h n =>
 pc s3 fun v5 s6 =>
 pc s6 fun v7 s8 =>
 pc s8 fun v9 s10 =>
 pc s10 fun v11 s12 =>
 evNc' v5 fun v13 =>
 evFa tbx 122 1 v13 fun v14 =>
 evLoad tbx 120 v14 h fun v15 =>
 evLoad tbx 24 v9 h fun v16 =>
 evLook tbx mtab 120 v15 v16 true h fun v17 =>
 evExt 0 v17 fun v18 =>
 evExt 1 v17 fun v19 =>
 evLoad tbx 120 v14 h fun w161 => cond (eqV 6 w161 v15) (
 evLoad tbx 24 v9 h fun w160 => cond (eqV 6 w160 v16) (
 evLook tbx mtab 120 v15 v16 true h fun w159 => cond (eqV 6 w159 v17) (
 evAlloc tbx 124 h n fun v20 h n =>
 evLoad tbx 120 v14 h fun w158 => cond (eqV 6 w158 v15) (
 evLoad tbx 24 v9 h fun w157 => cond (eqV 6 w157 v16) (
 evLook tbx mtab 120 v15 v16 true h fun w156 => cond (eqV 6 w156 v17) (
 evStore tbx 124 v20 v18 h n fun _ h n =>
 brB v19 (
 evLen tbx 79 v7 fun v21 =>
 evFa tbx 124 1 v20 fun v22 =>
 evLoad tbx 3 v22 h fun v23 =>
 evBin2 tbx .add 3 v21 v23 fun v24 =>
 evBin2 tbx .geq 3 v24 (.i .i64 5) fun v25 =>
 brB v25 (
 evBuild tbx 124 [] fun v26 =>
 evStore tbx 124 v11 v26 h n fun _ h n =>
 evLoad tbx 124 v11 h fun v27 =>
 k (.tp [v27, (.i .i64 7)]) h n) (
 evLoad tbx 124 v20 h fun v28 =>
 evStore tbx 124 v11 v28 h n fun _ h n =>
 evLoad tbx 124 v11 h fun v29 =>
 k (.tp [v29, (.i .i64 0)]) h n)) (
 evLoad tbx 24 v9 h fun v30 =>
 cf 107 [v5, v30] h n fun v31 h n =>
 evExt 0 v31 fun v32 =>
 evExt 1 v31 fun v33 =>
 evAlloc tbx 32 h n fun v34 h n =>
 evStore tbx 32 v34 v32 h n fun _ h n =>
 evBin2 tbx .neq 33 v33 (.i .i64 0) fun v35 =>
 brB v35 (
 evBuild tbx 124 [] fun v36 =>
 evStore tbx 124 v11 v36 h n fun _ h n =>
 evLoad tbx 124 v11 h fun v37 =>
 k (.tp [v37, v33]) h n) (
 evFa tbx 32 6 v34 fun v38 =>
 evLoad tbx 30 v38 h fun v39 =>
 evLoad tbx 24 v9 h fun v40 =>
 alB n fun n' => sliA tbx 79 1 [(0, v40)] fun x mk => 
 (fun (v41 : V) h n =>
 evLoad tbx 30 v38 h fun w155 => cond (eqV 6 w155 v39) (
 evLoad tbx 24 v9 h fun w154 => cond (eqV 6 w154 v40) (
 ckO (vId v41) h fun id x' => sliA tbx 79 1 [(0, v40)] fun x mk => cond (eqO x' x) (cond (eqV 6 (mk id) v41) (
 cf 109 [v7] h n fun v42 h n =>
 evLoad tbx 30 v38 h fun w153 => cond (eqV 6 w153 v39) (
 evLoad tbx 24 v9 h fun w152 => cond (eqV 6 w152 v40) (
 ckO (vId v41) h fun id x' => sliA tbx 79 1 [(0, v40)] fun x mk => cond (eqO x' x) (cond (eqV 6 (mk id) v41) (
 evApp tbx 79 79 v42 v41 h n fun v43 h n =>
 evLoad tbx 30 v38 h fun w151 => cond (eqV 6 w151 v39) (
 cf 108 [v5, v39, v43] h n fun v44 h n =>
 evExt 0 v44 fun v45 =>
 evExt 1 v44 fun v46 =>
 evExt 2 v44 fun v47 =>
 evBin2 tbx .neq 33 v47 (.i .i64 0) fun v48 =>
 brB v48 (
 evBuild tbx 124 [] fun v49 =>
 evStore tbx 124 v11 v49 h n fun _ h n =>
 evLoad tbx 124 v11 h fun v50 =>
 k (.tp [v50, v47]) h n) (
 evFa tbx 32 6 v34 fun v51 =>
 evStore tbx 30 v51 v45 h n fun _ h n =>
 evFa tbx 32 7 v34 fun v52 =>
 evLoad tbx 30 v52 h fun v53 =>
 cf 110 [v53] h n fun v54 h n =>
 evLen tbx 30 v54 fun v55 =>
 jp (fun (s56 : VT [0, 4, 6, 10, 13, 14]) h n =>
 pc s56 fun v58 s59 =>
 pc s59 fun v60 s61 =>
 pc s61 fun v62 s63 =>
 pc s63 fun v64 s65 =>
 pc s65 fun v66 s67 =>
 pc s67 fun v68 s69 =>
 evFa tbx 32 7 v64 fun v70 =>
 evStore tbx 30 v70 v68 h n fun _ h n =>
 evNc' v58 fun v71 =>
 evFa tbx 122 1 v71 fun v72 =>
 evLoad tbx 120 v72 h fun v73 =>
 evLoad tbx 24 v60 h fun v74 =>
 evLoad tbx 32 v64 h fun v75 =>
 evBuild tbx 124 [(0, v75), (1, v66)] fun v76 =>
 evLoad tbx 120 v72 h fun w88 => cond (eqV 6 w88 v73) (
 evLoad tbx 24 v60 h fun w87 => cond (eqV 6 w87 v74) (
 evLoad tbx 32 v64 h fun w86 => cond (eqV 6 w86 v75) (
 evMapUpd mtab 120 v73 v74 v76 h n fun _ h n =>
 evNc' v58 fun v77 =>
 evFa tbx 122 1 v77 fun v78 =>
 evLoad tbx 120 v78 h fun v79 =>
 evLoad tbx 24 v60 h fun v80 =>
 evLook tbx mtab 120 v79 v80 false h fun v81 =>
 evLoad tbx 120 v78 h fun w85 => cond (eqV 6 w85 v79) (
 evLoad tbx 24 v60 h fun w84 => cond (eqV 6 w84 v80) (
 evLook tbx mtab 120 v79 v80 false h fun w83 => cond (eqV 6 w83 v81) (
 evStore tbx 124 v62 v81 h n fun _ h n =>
 evLoad tbx 124 v62 h fun v82 =>
 k (.tp [v82, (.i .i64 0)]) h n) none) none) none) none) none) none) fun kk57 =>
 lpC [0, 4, 6, 10, 13, 14, 76, 77, 78] (fun lo90 s89 h n =>
 pc s89 fun v91 s92 =>
 pc s92 fun v93 s94 =>
 pc s94 fun v95 s96 =>
 pc s96 fun v97 s98 =>
 pc s98 fun v99 s100 =>
 pc s100 fun v101 s102 =>
 pc s102 fun v103 s104 =>
 pc s104 fun v105 s106 =>
 pc s106 fun v107 s108 =>
 evBin2 tbx .lss 3 v107 v105 fun v109 =>
 brB v109 (
 jp (fun (s110 : VT [0, 4, 6, 10, 13, 14, 76, 77, 78]) h n =>
 pc s110 fun v112 s113 =>
 pc s113 fun v114 s115 =>
 pc s115 fun v116 s117 =>
 pc s117 fun v118 s119 =>
 pc s119 fun v120 s121 =>
 pc s121 fun v122 s123 =>
 pc s123 fun v124 s125 =>
 pc s125 fun v126 s127 =>
 pc s127 fun v128 s129 =>
 evBin2 tbx .add 3 v128 (.i .i64 1) fun v130 =>
 lo90 (v112, v114, v116, v118, v120, v122, v124, v126, v130, ()) h n) fun kk111 =>
 evIa tbx 30 v103 v107 fun v131 =>
 evLoad tbx 51 v131 h fun v132 =>
 evAlloc tbx 51 h n fun v133 h n =>
 evStore tbx 51 v133 v132 h n fun _ h n =>
 evLoad tbx 51 v133 h fun v134 =>
 evFa tbx 32 6 v97 fun v135 =>
 evLoad tbx 30 v135 h fun v136 =>
 cf 111 [v134, v136] h n fun v137 h n =>
 evStore tbx 51 v133 v137 h n fun _ h n =>
 evFa tbx 51 2 v133 fun v138 =>
 evLoad tbx 9 v138 h fun v139 =>
 evBin2 tbx .eql 9 v139 (.s 0 0) fun v140 =>
 brB v140 (
 evBuild tbx 124 [] fun v141 =>
 evStore tbx 124 v95 v141 h n fun _ h n =>
 evLoad tbx 124 v95 h fun v142 =>
 k (.tp [v142, (.i .i64 11)]) h n) (
 evFa tbx 51 5 v133 fun v143 =>
 evLoad tbx 9 v143 h fun v144 =>
 evBuildSl tbx 71 2 [(0, v144), (1, (.s 7 27988538522430565))] h n fun v145 h n =>
 cf 42 [v145] h n fun v146 h n =>
 evFa tbx 51 5 v133 fun v147 =>
 evStore tbx 9 v147 v146 h n fun _ h n =>
 evLoad tbx 51 v133 h fun v148 =>
 evBuildSl tbx 30 1 [(0, v148)] h n fun v149 h n =>
 evApp tbx 30 30 v101 v149 h n fun v150 h n =>
 kk111 (v91, v93, v95, v97, v99, v150, v103, v105, v107, ()) h n)) (
 kk57 (v91, v93, v95, v97, v99, v101, ()) h n)) fu (v5, v9, v11, v34, v46, .ns, v54, v55, (.i .i64 0), ()) h n)) none) none) none) none) none) none) none) none) none) (mk n) (hset x n h) n'))) none) none) none) none) none) none) fun kk4 =>
 evLoad tbx 24 v1 h fun v162 =>
 cf 39 [a2, v162] h n fun v163 h n =>
 brB v163 (
 evBuild tbx 124 [] fun v164 =>
 evStore tbx 124 v2 v164 h n fun _ h n =>
 evLoad tbx 124 v2 h fun v165 =>
 k (.tp [v165, (.i .i64 16)]) h n) (
 evLen tbx 79 a2 fun v166 =>
 evBin2 tbx .geq 3 v166 (.i .i64 5) fun v167 =>
 brB v167 (
 evBuild tbx 124 [] fun v168 =>
 evStore tbx 124 v2 v168 h n fun _ h n =>
 evLoad tbx 124 v2 h fun v169 =>
 k (.tp [v169, (.i .i64 7)]) h n) (
 kk4 (a0, a2, v1, v2, ()) h n))
noncomputable def e65 : FE := ⟨Tryz.f65, bd Tryz.f65, [0, 1, 2], [6, 7], (.q .z (.q (.b [0, 2, 4, 6] (.q .z (.c (.q .z .z) (.q .z (.c (.q .z .z) .z))))) (.q (.q .z (.q .z (.c (.q (.q .z (.c (.q .z .z) .z)) (.q .z .z)) .z))) (.q .z (.q (.q .z (.c (.q .z .z) .z)) (.q .z (.q (.q .z (.c (.q .z .z) .z)) (.q .z (.q .z (.q (.q .z (.b [0, 4, 6, 10, 13, 14] (.l [0, 4, 6, 10, 13, 14, 76, 77, 78] (.q .z (.q (.c .z .z) (.q (.b [0, 4, 6, 10, 13, 14, 76, 77, 78] (.q .z (.q .z (.q (.q .z (.c (.q .z .z) .z)) (.q .z .z))))) .z)))))) (.q .z (.q .z (.q .z .z)))))))))))))⟩
theorem q65 (fu : Nat) (cf : CF) (a0 a1 a2 : V) (h : H) (n : Id) (k : KV) : evF fu cf e65 [a0, a1, a2] h n k = s65 fu cf a0 a1 a2 h n k := by kernel_rfl
theorem p65 : PfOk Tryz.prog tbx mtab 65 (w3 (s65 fuX)) := pfo e65 Tryz.func65 (by kernel_rfl) (w3_ok (q65 fuX))
noncomputable def s66 (fu : Nat) (cf : CF) (a0 : V) (h : H) (n : Id) (k : KV) : R :=
 evBin2 tbx .eql 29 a0 .ns fun v1 =>
 brB v1 (
 k .ns h n) (
 evBuildSl tbx 29 0 [] h n fun v2 h n =>
 evApp tbx 29 29 v2 a0 h n fun v3 h n =>
 k v3 h n)
noncomputable def e66 : FE := ⟨Tryz.f66, bd Tryz.f66, [0], [2], (.q .z (.q (.q .z (.c (.q .z .z) .z)) (.q .z .z)))⟩
theorem q66 (fu : Nat) (cf : CF) (a0 : V) (h : H) (n : Id) (k : KV) : evF fu cf e66 [a0] h n k = s66 fu cf a0 h n k := by kernel_rfl
theorem p66 : PfOk Tryz.prog tbx mtab 66 (w1 (s66 fuX)) := pfo e66 Tryz.func66 (by kernel_rfl) (w1_ok (q66 fuX))
noncomputable def s67 (fu : Nat) (cf : CF) (a0 : V) (h : H) (n : Id) (k : KV) : R :=
 cf 112 [a0] h n fun v1 h n =>
 evLen tbx 30 v1 fun v2 =>
 jp (fun (s3 : VT [3]) h n =>
 pc s3 fun v5 s6 =>
 k v5 h n) fun kk4 =>
 lpC [3, 8, 9] (fun lo8 s7 h n =>
 pc s7 fun v9 s10 =>
 pc s10 fun v11 s12 =>
 pc s12 fun v13 s14 =>
 evBin2 tbx .lss 3 v13 v11 fun v15 =>
 brB v15 (
 jp (fun (s16 : VT [3, 8, 9]) h n =>
 pc s16 fun v18 s19 =>
 pc s19 fun v20 s21 =>
 pc s21 fun v22 s23 =>
 evBin2 tbx .add 3 v22 (.i .i64 1) fun v24 =>
 lo8 (v18, v20, v24, ()) h n) fun kk17 =>
 evIa tbx 30 v9 v13 fun v25 =>
 evFa tbx 51 7 v25 fun v26 =>
 evLoad tbx 49 v26 h fun v27 =>
 cf 113 [v27] h n fun v28 h n =>
 evIa tbx 30 v9 v13 fun v29 =>
 evFa tbx 51 7 v29 fun v30 =>
 evStore tbx 49 v30 v28 h n fun _ h n =>
 kk17 (v9, v11, v13, ()) h n) (
 kk4 (v9, ()) h n)) fu (v1, v2, (.i .i64 0), ()) h n
noncomputable def e67 : FE := ⟨Tryz.f67, bd Tryz.f67, [0], [2], (.q .z (.q .z (.q (.q .z (.b [3] (.l [3, 8, 9] (.q .z (.q (.c .z .z) (.q (.b [3, 8, 9] (.q .z .z)) .z)))))) (.q .z .z))))⟩
theorem q67 (fu : Nat) (cf : CF) (a0 : V) (h : H) (n : Id) (k : KV) : evF fu cf e67 [a0] h n k = s67 fu cf a0 h n k := by kernel_rfl
theorem p67 : PfOk Tryz.prog tbx mtab 67 (w1 (s67 fuX)) := pfo e67 Tryz.func67 (by kernel_rfl) (w1_ok (q67 fuX))
noncomputable def s68 (fu : Nat) (cf : CF) (a0 a1 : V) (h : H) (n : Id) (k : KV) : R :=
 cf 114 [a1] h n fun v1 h n =>
 evUn .not v1 fun v2 =>
 brB v2 (
 cf 59 [a1] h n fun v3 h n =>
 evUn .not v3 fun v4 =>
 brB v4 (
 k (.tp [(.s 0 0), (.i .i64 11)]) h n) (
 k (.tp [a1, (.i .i64 0)]) h n)) (
 cf 115 [a1] h n fun v5 h n =>
 evExt 0 v5 fun v6 =>
 evExt 1 v5 fun v7 =>
 evBin2 tbx .neq 33 v7 (.i .i64 0) fun v8 =>
 brB v8 (
 k (.tp [(.s 0 0), v7]) h n) (
 cf 116 [a0, v6] h n fun v9 h n =>
 evExt 0 v9 fun v10 =>
 evExt 1 v9 fun v11 =>
 evUn .not v11 fun v12 =>
 brB v12 (
 k (.tp [(.s 0 0), (.i .i64 13)]) h n) (
 k (.tp [v10, (.i .i64 0)]) h n)))
noncomputable def e68 : FE := ⟨Tryz.f68, bd Tryz.f68, [0, 1], [4, 5], (.q .z (.q (.q .z (.c (.q (.q .z (.c (.q .z .z) .z)) (.q .z .z)) .z)) (.q .z (.q (.q .z (.c (.q .z .z) .z)) (.q .z (.q (.q .z (.c (.q .z .z) .z)) (.q .z .z)))))))⟩
theorem q68 (fu : Nat) (cf : CF) (a0 a1 : V) (h : H) (n : Id) (k : KV) : evF fu cf e68 [a0, a1] h n k = s68 fu cf a0 a1 h n k := by kernel_rfl
theorem p68 : PfOk Tryz.prog tbx mtab 68 (w2 (s68 fuX)) := pfo e68 Tryz.func68 (by kernel_rfl) (w2_ok (q68 fuX))
noncomputable def s69 (fu : Nat) (cf : CF) (a0 a1 a2 : V) (h : H) (n : Id) (k : KV) : R :=
 evBin2 tbx .eql 27 a0 .np fun v1 =>
 brB v1 (
 k .ns h n) (
 evNc' a0 fun v2 =>
 evFa tbx 81 1 v2 fun v3 =>
 evLoad tbx 78 v3 h fun v4 =>
 evBuild tbx 87 [(0, a1), (1, a2)] fun v5 =>
 evLook tbx mtab 78 v4 v5 false h fun v6 =>
 cf 117 [v6] h n fun v7 h n =>
 k v7 h n)
noncomputable def e69 : FE := ⟨Tryz.f69, bd Tryz.f69, [0, 1, 2], [6], (.q .z (.q (.q .z (.c (.q .z .z) .z)) (.q .z .z)))⟩
theorem q69 (fu : Nat) (cf : CF) (a0 a1 a2 : V) (h : H) (n : Id) (k : KV) : evF fu cf e69 [a0, a1, a2] h n k = s69 fu cf a0 a1 a2 h n k := by kernel_rfl
theorem p69 : PfOk Tryz.prog tbx mtab 69 (w3 (s69 fuX)) := pfo e69 Tryz.func69 (by kernel_rfl) (w3_ok (q69 fuX))
noncomputable def s70 (fu : Nat) (cf : CF) (a0 a1 a2 : V) (h : H) (n : Id) (k : KV) : R :=
 evBox a1 h n fun v1 h n =>
 evLoad tbx 51 v1 h fun v2 =>
 cf 46 [v2] h n fun v3 h n =>
 cf 118 [a0, v3, a2] h n fun v4 h n =>
 brB v4 (
 k (.i .i64 4) h n) (
 evNc' a0 fun v5 =>
 evFa tbx 102 5 v5 fun v6 =>
 evLoad tbx 99 v6 h fun v7 =>
 evLook tbx mtab 99 v7 v3 true h fun v8 =>
 evExt 0 v8 fun v9 =>
 evExt 1 v8 fun v10 =>
 jp (fun (s11 : VT []) h n =>
 k (.i .i64 2) h n) fun kk12 =>
 evUn .not v10 fun v13 =>
 brB v13 (
 k (.i .i64 1) h n) (
 evNc' a0 fun v14 =>
 evFa tbx 102 4 v14 fun v15 =>
 evLoad tbx 64 v15 h fun v16 =>
 evIa tbx 64 v16 v9 fun v17 =>
 evFa tbx 70 2 v17 fun v18 =>
 evFa tbx 51 2 v18 fun v19 =>
 evLoad tbx 9 v19 h fun v20 =>
 evFa tbx 51 2 v1 fun v21 =>
 evLoad tbx 9 v21 h fun v22 =>
 evBin2 tbx .eql 9 v20 v22 fun v23 =>
 evLoad tbx 64 v15 h fun w26 => cond (eqV 6 w26 v16) (
 evLoad tbx 9 v19 h fun w25 => cond (eqV 6 w25 v20) (
 evLoad tbx 9 v21 h fun w24 => cond (eqV 6 w24 v22) (
 brB v23 (
 k (.i .i64 3) h n) (
 kk12 (()) h n)) none) none) none))
noncomputable def e70 : FE := ⟨Tryz.f70, bd Tryz.f70, [0, 1, 2], [6], (.q .z (.q .z (.q (.q .z (.c (.q .z .z) .z)) (.q .z (.q (.b [] (.q .z (.c (.q .z .z) (.q .z (.c (.q .z .z) .z))))) (.q .z .z))))))⟩
theorem q70 (fu : Nat) (cf : CF) (a0 a1 a2 : V) (h : H) (n : Id) (k : KV) : evF fu cf e70 [a0, a1, a2] h n k = s70 fu cf a0 a1 a2 h n k := by kernel_rfl
theorem p70 : PfOk Tryz.prog tbx mtab 70 (w3 (s70 fuX)) := pfo e70 Tryz.func70 (by kernel_rfl) (w3_ok (q70 fuX))
noncomputable def s71 (fu : Nat) (cf : CF) (a0 a1 a2 : V) (h : H) (n : Id) (k : KV) : R :=
 jp (fun (s1 : VT [2, 7]) h n =>
 pc s1 fun v3 s4 =>
 pc s4 fun v5 s6 =>
 evConv2 tbx mtab 3 191 v3 h n fun v7 h n =>
 evCplx v5 v7 fun v8 =>
 k v8 h n) fun kk2 =>
 evBin2 tbx .geq 3 a1 (.i .i64 0) fun v9 =>
 brB v9 (
 evNc' a0 fun v10 =>
 evFa tbx 102 6 v10 fun v11 =>
 evLoad tbx 100 v11 h fun v12 =>
 evIa tbx 100 v12 a1 fun v13 =>
 evLoad tbx 132 v13 h fun v14 =>
 evReal v14 fun v15 =>
 evBin2 tbx .add 191 (.f64 4607182418800017408) v15 fun v16 =>
 kk2 (a2, v16, ()) h n) (
 kk2 (a2, (.f64 4607182418800017408), ()) h n)
noncomputable def e71 : FE := ⟨Tryz.f71, bd Tryz.f71, [0, 1, 2], [6], (.q .z (.q .z (.s [2, 7] (.q .z (.c .z .z)) (.q .z .z))))⟩
theorem q71 (fu : Nat) (cf : CF) (a0 a1 a2 : V) (h : H) (n : Id) (k : KV) : evF fu cf e71 [a0, a1, a2] h n k = s71 fu cf a0 a1 a2 h n k := by kernel_rfl
theorem p71 : PfOk Tryz.prog tbx mtab 71 (w3 (s71 fuX)) := pfo e71 Tryz.func71 (by kernel_rfl) (w3_ok (q71 fuX))
noncomputable def s72 (fu : Nat) (cf : CF) (a0 a1 a2 : V) (h : H) (n : Id) (k : KV) : R :=
 evBox a1 h n fun v1 h n =>
 evBox a2 h n fun v2 h n =>
 evAlloc tbx 51 h n fun v3 h n =>
 evFa tbx 51 6 v1 fun v4 =>
 evLoad tbx 4 v4 h fun v5 =>
 jp (fun (v6 : V) h n =>
 jp (fun (v8 : V) h n =>
 jp (fun (v10 : V) h n =>
 jp (fun (v12 : V) h n =>
 jp (fun (v14 : V) h n =>
 jp (fun (v16 : V) h n =>
 jp (fun (v18 : V) h n =>
 evPick v5 (.b true) v18 fun v20 =>
 brB v20 (
 evBuild tbx 51 [] fun v21 =>
 evStore tbx 51 v3 v21 h n fun _ h n =>
 evLoad tbx 51 v3 h fun v22 =>
 k (.tp [v22, (.b false)]) h n) (
 evFa tbx 51 5 v2 fun v23 =>
 evLoad tbx 9 v23 h fun v24 =>
 evFa tbx 51 5 v1 fun v25 =>
 evLoad tbx 9 v25 h fun v26 =>
 cf 120 [v24, v26] h n fun v27 h n =>
 evExt 0 v27 fun v28 =>
 evExt 1 v27 fun v29 =>
 evUn .not v29 fun v30 =>
 brB v30 (
 evBuild tbx 51 [] fun v31 =>
 evStore tbx 51 v3 v31 h n fun _ h n =>
 evLoad tbx 51 v3 h fun v32 =>
 k (.tp [v32, (.b false)]) h n) (
 evLoad tbx 51 v1 h fun v33 =>
 evNc' a0 fun v34 =>
 evFa tbx 102 2 v34 fun v35 =>
 evLoad tbx 30 v35 h fun v36 =>
 evLoad tbx 51 v1 h fun w55 => cond (eqV 6 w55 v33) (
 evLoad tbx 30 v35 h fun w54 => cond (eqV 6 w54 v36) (
 cf 121 [v33, v36] h n fun v37 h n =>
 evStore tbx 51 v1 v37 h n fun _ h n =>
 evFa tbx 51 5 v2 fun v38 =>
 evLoad tbx 9 v38 h fun v39 =>
 evFa tbx 51 5 v1 fun v40 =>
 evLoad tbx 9 v40 h fun v41 =>
 cf 120 [v39, v41] h n fun v42 h n =>
 evExt 0 v42 fun v43 =>
 evExt 1 v42 fun v44 =>
 evFa tbx 51 7 v2 fun v45 =>
 evLoad tbx 49 v45 h fun v46 =>
 evFa tbx 51 7 v1 fun v47 =>
 evLoad tbx 49 v47 h fun v48 =>
 cf 122 [v46, v48] h n fun v49 h n =>
 evFa tbx 51 5 v1 fun v50 =>
 evStore tbx 9 v50 v43 h n fun _ h n =>
 evFa tbx 51 7 v1 fun v51 =>
 evStore tbx 49 v51 v49 h n fun _ h n =>
 evLoad tbx 51 v1 h fun v52 =>
 evStore tbx 51 v3 v52 h n fun _ h n =>
 evLoad tbx 51 v3 h fun v53 =>
 k (.tp [v53, v44]) h n) none) none))) fun kk19 =>
 gdB v5 false ((cf 119 [v8, v12, v16] h n kk19)) (kk19 (.tp []) h n)) fun kk17 =>
 gdB v5 false ((evLoad tbx 9 v14 h fun v => kk17 v h n)) (kk17 (.tp []) h n)) fun kk15 =>
 gdB v5 false ((evFa tbx 51 1 v1 fun v => kk15 v h n)) (kk15 (.tp []) h n)) fun kk13 =>
 gdB v5 false ((evLoad tbx 9 v10 h fun v => kk13 v h n)) (kk13 (.tp []) h n)) fun kk11 =>
 gdB v5 false ((evFa tbx 51 0 v1 fun v => kk11 v h n)) (kk11 (.tp []) h n)) fun kk9 =>
 gdB v5 false ((evLoad tbx 49 v6 h fun v => kk9 v h n)) (kk9 (.tp []) h n)) fun kk7 =>
 gdB v5 false ((evFa tbx 51 7 v2 fun v => kk7 v h n)) (kk7 (.tp []) h n)
noncomputable def e72 : FE := ⟨Tryz.f72, bd Tryz.f72, [0, 1, 2], [6, 7], (.q .z (.q (.q .z (.c (.q .z .z) .z)) (.q (.q .z (.q .z (.c (.q .z .z) .z))) (.q .z (.q .z (.q .z (.q .z .z)))))))⟩
theorem q72 (fu : Nat) (cf : CF) (a0 a1 a2 : V) (h : H) (n : Id) (k : KV) : evF fu cf e72 [a0, a1, a2] h n k = s72 fu cf a0 a1 a2 h n k := by kernel_rfl
theorem p72 : PfOk Tryz.prog tbx mtab 72 (w3 (s72 fuX)) := pfo e72 Tryz.func72 (by kernel_rfl) (w3_ok (q72 fuX))
noncomputable def s73 (fu : Nat) (cf : CF) (a0 : V) (h : H) (n : Id) (k : KV) : R :=
 evBin2 tbx .geq 5 a0 (.i .u8 97) fun v1 =>
 jp (fun (v2 : V) h n =>
 jp (fun (v4 : V) h n =>
 evPick v1 v4 (.b false) fun v6 =>
 jp (fun (v7 : V) h n =>
 jp (fun (v9 : V) h n =>
 jp (fun (v11 : V) h n =>
 jp (fun (v13 : V) h n =>
 jp (fun (v15 : V) h n =>
 jp (fun (v17 : V) h n =>
 evPick v6 (.b true) v17 fun v19 =>
 jp (fun (v20 : V) h n =>
 jp (fun (v22 : V) h n =>
 evPick v19 (.b true) v22 fun v24 =>
 k v24 h n) fun kk23 =>
 gdB v19 false ((evBin2 tbx .eql 5 v20 (.i .u8 95) fun v => kk23 v h n)) (kk23 (.tp []) h n)) fun kk21 =>
 gdB v19 false (kk21 a0 h n) (kk21 (.tp []) h n)) fun kk18 =>
 gdB v6 false ((evPick v11 v15 (.b false) fun v => kk18 v h n)) (kk18 (.tp []) h n)) fun kk16 =>
 gdB v11 true ((evBin2 tbx .leq 5 v13 (.i .u8 90) fun v => kk16 v h n)) (kk16 (.tp []) h n)) fun kk14 =>
 gdB v11 true (kk14 a0 h n) (kk14 (.tp []) h n)) fun kk12 =>
 gdB v6 false (kk12 v9 h n) (kk12 (.tp []) h n)) fun kk10 =>
 gdB v6 false ((evBin2 tbx .geq 5 v7 (.i .u8 65) fun v => kk10 v h n)) (kk10 (.tp []) h n)) fun kk8 =>
 gdB v6 false (kk8 a0 h n) (kk8 (.tp []) h n)) fun kk5 =>
 gdB v1 true ((evBin2 tbx .leq 5 v2 (.i .u8 122) fun v => kk5 v h n)) (kk5 (.tp []) h n)) fun kk3 =>
 gdB v1 true (kk3 a0 h n) (kk3 (.tp []) h n)
noncomputable def e73 : FE := ⟨Tryz.f73, bd Tryz.f73, [0], [2], (.q .z (.q .z .z))⟩
theorem q73 (fu : Nat) (cf : CF) (a0 : V) (h : H) (n : Id) (k : KV) : evF fu cf e73 [a0] h n k = s73 fu cf a0 h n k := by kernel_rfl
theorem p73 : PfOk Tryz.prog tbx mtab 73 (w1 (s73 fuX)) := pfo e73 Tryz.func73 (by kernel_rfl) (w1_ok (q73 fuX))
noncomputable def s74 (fu : Nat) (cf : CF) (a0 : V) (h : H) (n : Id) (k : KV) : R :=
 cf 73 [a0] h n fun v1 h n =>
 jp (fun (v2 : V) h n =>
 jp (fun (v4 : V) h n =>
 evPick v1 (.b true) v4 fun v6 =>
 jp (fun (v7 : V) h n =>
 jp (fun (v9 : V) h n =>
 evPick v6 (.b true) v9 fun v11 =>
 jp (fun (v12 : V) h n =>
 jp (fun (v14 : V) h n =>
 evPick v11 (.b true) v14 fun v16 =>
 jp (fun (v17 : V) h n =>
 jp (fun (v19 : V) h n =>
 evPick v16 (.b true) v19 fun v21 =>
 k v21 h n) fun kk20 =>
 gdB v16 false ((evBin2 tbx .eql 5 v17 (.i .u8 58) fun v => kk20 v h n)) (kk20 (.tp []) h n)) fun kk18 =>
 gdB v16 false (kk18 a0 h n) (kk18 (.tp []) h n)) fun kk15 =>
 gdB v11 false ((evBin2 tbx .eql 5 v12 (.i .u8 46) fun v => kk15 v h n)) (kk15 (.tp []) h n)) fun kk13 =>
 gdB v11 false (kk13 a0 h n) (kk13 (.tp []) h n)) fun kk10 =>
 gdB v6 false ((evBin2 tbx .eql 5 v7 (.i .u8 45) fun v => kk10 v h n)) (kk10 (.tp []) h n)) fun kk8 =>
 gdB v6 false (kk8 a0 h n) (kk8 (.tp []) h n)) fun kk5 =>
 gdB v1 false ((cf 123 [v2] h n kk5)) (kk5 (.tp []) h n)) fun kk3 =>
 gdB v1 false (kk3 a0 h n) (kk3 (.tp []) h n)
noncomputable def e74 : FE := ⟨Tryz.f74, bd Tryz.f74, [0], [2], (.q .z (.q .z .z))⟩
theorem q74 (fu : Nat) (cf : CF) (a0 : V) (h : H) (n : Id) (k : KV) : evF fu cf e74 [a0] h n k = s74 fu cf a0 h n k := by kernel_rfl
theorem p74 : PfOk Tryz.prog tbx mtab 74 (w1 (s74 fuX)) := pfo e74 Tryz.func74 (by kernel_rfl) (w1_ok (q74 fuX))
noncomputable def s75 (fu : Nat) (cf : CF) (a0 : V) (h : H) (n : Id) (k : KV) : R :=
 cf 124 [a0] h n fun v1 h n =>
 jp (fun (v2 : V) h n =>
 jp (fun (v4 : V) h n =>
 evPick v1 (.b true) v4 fun v6 =>
 k v6 h n) fun kk5 =>
 gdB v1 false ((evBin2 tbx .gtr 5 v2 (.i .u8 32) fun v => kk5 v h n)) (kk5 (.tp []) h n)) fun kk3 =>
 gdB v1 false (kk3 a0 h n) (kk3 (.tp []) h n)
noncomputable def e75 : FE := ⟨Tryz.f75, bd Tryz.f75, [0], [2], (.q .z (.q .z .z))⟩
theorem q75 (fu : Nat) (cf : CF) (a0 : V) (h : H) (n : Id) (k : KV) : evF fu cf e75 [a0] h n k = s75 fu cf a0 h n k := by kernel_rfl
theorem p75 : PfOk Tryz.prog tbx mtab 75 (w1 (s75 fuX)) := pfo e75 Tryz.func75 (by kernel_rfl) (w1_ok (q75 fuX))
noncomputable def s76 (fu : Nat) (cf : CF) (a0 : V) (h : H) (n : Id) (k : KV) : R :=
 jp (fun (s1 : VT [0]) h n =>
 pc s1 fun v3 s4 =>
 jp (fun (s5 : VT [0]) h n =>
 pc s5 fun v7 s8 =>
 k v7 h n) fun kk6 =>
 lpC [0] (fun lo10 s9 h n =>
 pc s9 fun v11 s12 =>
 evLen tbx 9 v11 fun v13 =>
 evBin2 tbx .gtr 3 v13 (.i .i64 0) fun v14 =>
 jp (fun (v15 : V) h n =>
 jp (fun (v17 : V) h n =>
 jp (fun (v19 : V) h n =>
 jp (fun (v21 : V) h n =>
 jp (fun (v23 : V) h n =>
 jp (fun (v25 : V) h n =>
 evPick v14 v25 (.b false) fun v27 =>
 brB v27 (
 jp (fun (s28 : VT [0]) h n =>
 pc s28 fun v30 s31 =>
 lo10 (v30, ()) h n) fun kk29 =>
 evLen tbx 9 v11 fun v32 =>
 evBin2 tbx .sub 3 v32 (.i .i64 1) fun v33 =>
 evSlc tbx 9 v11 none (some v33) fun v34 =>
 kk29 (v34, ()) h n) (
 kk6 (v11, ()) h n)) fun kk26 =>
 gdB v14 true ((cf 124 [v23] h n kk26)) (kk26 (.tp []) h n)) fun kk24 =>
 gdB v14 true ((evIx tbx 9 v15 v21 fun v => kk24 v h n)) (kk24 (.tp []) h n)) fun kk22 =>
 gdB v14 true ((evBin2 tbx .sub 3 v19 (.i .i64 1) fun v => kk22 v h n)) (kk22 (.tp []) h n)) fun kk20 =>
 gdB v14 true ((evLen tbx 9 v17 fun v => kk20 v h n)) (kk20 (.tp []) h n)) fun kk18 =>
 gdB v14 true (kk18 v11 h n) (kk18 (.tp []) h n)) fun kk16 =>
 gdB v14 true (kk16 v11 h n) (kk16 (.tp []) h n)) fu (v3, ()) h n) fun kk2 =>
 lpC [0] (fun lo36 s35 h n =>
 pc s35 fun v37 s38 =>
 evLen tbx 9 v37 fun v39 =>
 evBin2 tbx .gtr 3 v39 (.i .i64 0) fun v40 =>
 jp (fun (v41 : V) h n =>
 jp (fun (v43 : V) h n =>
 jp (fun (v45 : V) h n =>
 evPick v40 v45 (.b false) fun v47 =>
 brB v47 (
 jp (fun (s48 : VT [0]) h n =>
 pc s48 fun v50 s51 =>
 lo36 (v50, ()) h n) fun kk49 =>
 evSlc tbx 9 v37 (some (.i .i64 1)) none fun v52 =>
 kk49 (v52, ()) h n) (
 kk2 (v37, ()) h n)) fun kk46 =>
 gdB v40 true ((cf 124 [v43] h n kk46)) (kk46 (.tp []) h n)) fun kk44 =>
 gdB v40 true ((evIx tbx 9 v41 (.i .i64 0) fun v => kk44 v h n)) (kk44 (.tp []) h n)) fun kk42 =>
 gdB v40 true (kk42 v37 h n) (kk42 (.tp []) h n)) fu (a0, ()) h n
noncomputable def e76 : FE := ⟨Tryz.f76, bd Tryz.f76, [0], [2], (.q .z (.q (.b [0] (.l [0] (.q (.q .z (.c .z .z)) (.b [0] .z)))) (.q (.b [0] (.l [0] (.q (.q .z (.c .z .z)) (.b [0] .z)))) (.q .z .z))))⟩
theorem q76 (fu : Nat) (cf : CF) (a0 : V) (h : H) (n : Id) (k : KV) : evF fu cf e76 [a0] h n k = s76 fu cf a0 h n k := by kernel_rfl
theorem p76 : PfOk Tryz.prog tbx mtab 76 (w1 (s76 fuX)) := pfo e76 Tryz.func76 (by kernel_rfl) (w1_ok (q76 fuX))
noncomputable def s77 (fu : Nat) (cf : CF) (a0 a1 a2 a3 : V) (h : H) (n : Id) (k : KV) : R :=
 evBin2 tbx .add 3 a1 (.i .i64 1) fun v1 =>
 jp (fun (s2 : VT []) h n =>
 k (.tp []) h n) fun kk3 =>
 lpC [0, 1, 2, 3, 8] (fun lo5 s4 h n =>
 pc s4 fun v6 s7 =>
 pc s7 fun v8 s9 =>
 pc s9 fun v10 s11 =>
 pc s11 fun v12 s13 =>
 pc s13 fun v14 s15 =>
 evBin2 tbx .lss 3 v14 v10 fun v16 =>
 brB v16 (
 jp (fun (s17 : VT [0, 1, 2, 3, 8]) h n =>
 pc s17 fun v19 s20 =>
 pc s20 fun v21 s22 =>
 pc s22 fun v23 s24 =>
 pc s24 fun v25 s26 =>
 pc s26 fun v27 s28 =>
 evBin2 tbx .add 3 v27 (.i .i64 1) fun v29 =>
 lo5 (v19, v21, v23, v25, v29, ()) h n) fun kk18 =>
 jp (fun (s30 : VT [0, 1, 2, 3, 8]) h n =>
 pc s30 fun v32 s33 =>
 pc s33 fun v34 s35 =>
 pc s35 fun v36 s37 =>
 pc s37 fun v38 s39 =>
 pc s39 fun v40 s41 =>
 kk18 (v32, v34, v36, v38, v40, ()) h n) fun kk31 =>
 lpC [0, 1, 2, 3, 8, 9] (fun lo43 s42 h n =>
 pc s42 fun v44 s45 =>
 pc s45 fun v46 s47 =>
 pc s47 fun v48 s49 =>
 pc s49 fun v50 s51 =>
 pc s51 fun v52 s53 =>
 pc s53 fun v54 s55 =>
 evBin2 tbx .gtr 3 v54 v46 fun v56 =>
 jp (fun (v57 : V) h n =>
 jp (fun (v59 : V) h n =>
 jp (fun (v61 : V) h n =>
 jp (fun (v63 : V) h n =>
 jp (fun (v65 : V) h n =>
 jp (fun (v67 : V) h n =>
 jp (fun (v69 : V) h n =>
 jp (fun (v71 : V) h n =>
 jp (fun (v73 : V) h n =>
 jp (fun (v75 : V) h n =>
 thenR (wsB (wV v56 true) (evLoad tbx 24 v63 h fun w77 => cond (eqV 6 w77 v65) (okR) none) (cond (eqV 2 v65 (.tp [])) okR none)) (
 thenR (wsB (wV v56 true) (evLoad tbx 24 v73 h fun w78 => cond (eqV 6 w78 v75) (okR) none) (cond (eqV 2 v75 (.tp [])) okR none)) (
 jp (fun (v79 : V) h n =>
 jp (fun (v81 : V) h n =>
 evPick v56 v81 (.b false) fun v83 =>
 brB v83 (
 jp (fun (s84 : VT [0, 1, 2, 3, 8, 9]) h n =>
 pc s84 fun v86 s87 =>
 pc s87 fun v88 s89 =>
 pc s89 fun v90 s91 =>
 pc s91 fun v92 s93 =>
 pc s93 fun v94 s95 =>
 pc s95 fun v96 s97 =>
 evBin2 tbx .sub 3 v96 (.i .i64 1) fun v98 =>
 lo43 (v86, v88, v90, v92, v94, v98, ()) h n) fun kk85 =>
 evBin2 tbx .sub 3 v54 (.i .i64 1) fun v99 =>
 evBin2 tbx .sub 3 v54 (.i .i64 1) fun v100 =>
 evIa tbx 79 v44 v100 fun v101 =>
 evLoad tbx 24 v101 h fun v102 =>
 evIa tbx 79 v44 v54 fun v103 =>
 evLoad tbx 24 v103 h fun v104 =>
 evIa tbx 79 v44 v54 fun v105 =>
 evLoad tbx 24 v101 h fun w108 => cond (eqV 6 w108 v102) (
 evLoad tbx 24 v103 h fun w107 => cond (eqV 6 w107 v104) (
 evStore tbx 24 v105 v102 h n fun _ h n =>
 evIa tbx 79 v44 v99 fun v106 =>
 evStore tbx 24 v106 v104 h n fun _ h n =>
 kk85 (v44, v46, v48, v50, v52, v54, ()) h n) none) none) (
 kk31 (v44, v46, v48, v50, v52, ()) h n)) fun kk82 =>
 wsB (wV v56 true) ((evBin2 tbx .lss 3 v79 (.i .i64 0) fun v => kk82 v h n)) (kk82 (.tp []) h n)) fun kk80 =>
 wsB (wV v56 true) ((evCall cf v57 [v65, v75] h n kk80)) (kk80 (.tp []) h n)))) fun kk76 =>
 wsB (wV v56 true) ((evLoad tbx 24 v73 h fun v => kk76 v h n)) (kk76 (.tp []) h n)) fun kk74 =>
 wsB (wV v56 true) ((evIa tbx 79 v67 v71 fun v => kk74 v h n)) (kk74 (.tp []) h n)) fun kk72 =>
 wsB (wV v56 true) ((evBin2 tbx .sub 3 v69 (.i .i64 1) fun v => kk72 v h n)) (kk72 (.tp []) h n)) fun kk70 =>
 wsB (wV v56 true) (kk70 v54 h n) (kk70 (.tp []) h n)) fun kk68 =>
 wsB (wV v56 true) (kk68 v44 h n) (kk68 (.tp []) h n)) fun kk66 =>
 wsB (wV v56 true) ((evLoad tbx 24 v63 h fun v => kk66 v h n)) (kk66 (.tp []) h n)) fun kk64 =>
 wsB (wV v56 true) ((evIa tbx 79 v59 v61 fun v => kk64 v h n)) (kk64 (.tp []) h n)) fun kk62 =>
 wsB (wV v56 true) (kk62 v54 h n) (kk62 (.tp []) h n)) fun kk60 =>
 wsB (wV v56 true) (kk60 v44 h n) (kk60 (.tp []) h n)) fun kk58 =>
 wsB (wV v56 true) (kk58 v50 h n) (kk58 (.tp []) h n)) fu (v6, v8, v10, v12, v14, v14, ()) h n) (
 kk3 (()) h n)) fu (a0, a1, a2, a3, v1, ()) h n
noncomputable def e77 : FE := ⟨Tryz.f77, bd Tryz.f77, [0, 1, 2, 3], [], (.q .z (.b [] (.l [0, 1, 2, 3, 8] (.q (.q .z (.c .z .z)) (.q (.b [0, 1, 2, 3, 8] (.q .z (.b [0, 1, 2, 3, 8] (.l [0, 1, 2, 3, 8, 9] (.q (.q .z (.c .z .z)) (.q (.b [0, 1, 2, 3, 8, 9] .z) .z)))))) .z)))))⟩
theorem q77 (fu : Nat) (cf : CF) (a0 a1 a2 a3 : V) (h : H) (n : Id) (k : KV) : evF fu cf e77 [a0, a1, a2, a3] h n k = s77 fu cf a0 a1 a2 a3 h n k := by kernel_rfl
theorem p77 : PfOk Tryz.prog tbx mtab 77 (w4 (s77 fuX)) := pfo e77 Tryz.func77 (by kernel_rfl) (w4_ok (q77 fuX))
noncomputable def s80 (fu : Nat) (cf : CF) (a0 a1 a2 a3 : V) (h : H) (n : Id) (k : KV) : R :=
 evBin2 tbx .sub 3 a2 a1 fun v1 =>
 evAlloc tbx 3 h n fun v2 h n =>
 evBin2 tbx .quo 3 v1 (.i .i64 4) fun v3 =>
 evBin2 tbx .mul 3 v3 (.i .i64 1) fun v4 =>
 evBin2 tbx .add 3 a1 v4 fun v5 =>
 evBin2 tbx .quo 3 v1 (.i .i64 4) fun v6 =>
 evBin2 tbx .mul 3 v6 (.i .i64 2) fun v7 =>
 evBin2 tbx .add 3 a1 v7 fun v8 =>
 evBin2 tbx .quo 3 v1 (.i .i64 4) fun v9 =>
 evBin2 tbx .mul 3 v9 (.i .i64 3) fun v10 =>
 evBin2 tbx .add 3 a1 v10 fun v11 =>
 jp (fun (s12 : VT [11, 13]) h n =>
 pc s12 fun v14 s15 =>
 pc s15 fun v16 s17 =>
 evLoad tbx 3 v14 h fun v18 =>
 jp (fun (s19 : VT [8, 9]) h n =>
 pc s19 fun v21 s22 =>
 pc s22 fun v23 s24 =>
 k (.tp [v21, v23]) h n) fun kk20 =>
 evBin2 tbx .eql 3 v18 (.i .i64 0) fun v25 =>
 brB v25 (
 k (.tp [v16, (.i .i64 1)]) h n) (
 evBin2 tbx .eql 3 v18 (.i .i64 12) fun v26 =>
 brB v26 (
 k (.tp [v16, (.i .i64 2)]) h n) (
 k (.tp [v16, (.i .i64 0)]) h n))) fun kk13 =>
 evBin2 tbx .geq 3 v1 (.i .i64 8) fun v27 =>
 brB v27 (
 jp (fun (s28 : VT [0, 3, 11, 12, 13, 14]) h n =>
 pc s28 fun v30 s31 =>
 pc s31 fun v32 s33 =>
 pc s33 fun v34 s35 =>
 pc s35 fun v36 s37 =>
 pc s37 fun v38 s39 =>
 pc s39 fun v40 s41 =>
 cf 129 [v30, v36, v38, v40, v34, v32] h n fun v42 h n =>
 kk13 (v34, v42, ()) h n) fun kk29 =>
 evBin2 tbx .geq 3 v1 (.i .i64 50) fun v43 =>
 brB v43 (
 cf 128 [a0, v5, v2, a3] h n fun v44 h n =>
 cf 128 [a0, v8, v2, a3] h n fun v45 h n =>
 cf 128 [a0, v11, v2, a3] h n fun v46 h n =>
 kk29 (a0, a3, v2, v44, v45, v46, ()) h n) (
 kk29 (a0, a3, v2, v5, v8, v11, ()) h n)) (
 kk13 (v2, v8, ()) h n)
noncomputable def e80 : FE := ⟨Tryz.f80, bd Tryz.f80, [0, 1, 2, 3], [8, 9], (.q .z (.q .z (.q .z (.q .z (.q .z (.q .z (.s [11, 13] (.q .z (.c (.s [0, 3, 11, 12, 13, 14] (.q .z (.c (.q .z (.q .z .z)) .z)) .z) .z)) (.q .z (.b [8, 9] (.q .z (.c (.q .z .z) (.q .z (.c (.q .z .z) (.q .z .z))))))))))))))⟩
theorem q80 (fu : Nat) (cf : CF) (a0 a1 a2 a3 : V) (h : H) (n : Id) (k : KV) : evF fu cf e80 [a0, a1, a2, a3] h n k = s80 fu cf a0 a1 a2 a3 h n k := by kernel_rfl
theorem p80 : PfOk Tryz.prog tbx mtab 80 (w4 (s80 fuX)) := pfo e80 Tryz.func80 (by kernel_rfl) (w4_ok (q80 fuX))
noncomputable def s82 (fu : Nat) (cf : CF) (a0 a1 a2 a3 : V) (h : H) (n : Id) (k : KV) : R :=
 evBin2 tbx .add 3 a1 (.i .i64 1) fun v1 =>
 jp (fun (s2 : VT []) h n =>
 k (.b false) h n) fun kk3 =>
 lpC [0, 1, 2, 3, 9, 10] (fun lo5 s4 h n =>
 pc s4 fun v6 s7 =>
 pc s7 fun v8 s9 =>
 pc s9 fun v10 s11 =>
 pc s11 fun v12 s13 =>
 pc s13 fun v14 s15 =>
 pc s15 fun v16 s17 =>
 evBin2 tbx .lss 3 v16 (.i .i64 5) fun v18 =>
 brB v18 (
 jp (fun (s19 : VT [0, 1, 2, 3, 9, 10]) h n =>
 pc s19 fun v21 s22 =>
 pc s22 fun v23 s24 =>
 pc s24 fun v25 s26 =>
 pc s26 fun v27 s28 =>
 pc s28 fun v29 s30 =>
 pc s30 fun v31 s32 =>
 evBin2 tbx .add 3 v31 (.i .i64 1) fun v33 =>
 lo5 (v21, v23, v25, v27, v29, v33, ()) h n) fun kk20 =>
 jp (fun (s34 : VT [0, 1, 2, 3, 9, 10]) h n =>
 pc s34 fun v36 s37 =>
 pc s37 fun v38 s39 =>
 pc s39 fun v40 s41 =>
 pc s41 fun v42 s43 =>
 pc s43 fun v44 s45 =>
 pc s45 fun v46 s47 =>
 evBin2 tbx .eql 3 v44 v40 fun v48 =>
 brB v48 (
 k (.b true) h n) (
 evBin2 tbx .sub 3 v40 v38 fun v49 =>
 evBin2 tbx .lss 3 v49 (.i .i64 50) fun v50 =>
 brB v50 (
 k (.b false) h n) (
 evBin2 tbx .sub 3 v44 (.i .i64 1) fun v51 =>
 evBin2 tbx .sub 3 v44 (.i .i64 1) fun v52 =>
 evIa tbx 79 v36 v52 fun v53 =>
 evLoad tbx 24 v53 h fun v54 =>
 evIa tbx 79 v36 v44 fun v55 =>
 evLoad tbx 24 v55 h fun v56 =>
 evIa tbx 79 v36 v44 fun v57 =>
 evLoad tbx 24 v53 h fun w216 => cond (eqV 6 w216 v54) (
 evLoad tbx 24 v55 h fun w215 => cond (eqV 6 w215 v56) (
 evStore tbx 24 v57 v54 h n fun _ h n =>
 evIa tbx 79 v36 v51 fun v58 =>
 evStore tbx 24 v58 v56 h n fun _ h n =>
 jp (fun (s59 : VT [0, 1, 2, 3, 9, 10]) h n =>
 pc s59 fun v61 s62 =>
 pc s62 fun v63 s64 =>
 pc s64 fun v65 s66 =>
 pc s66 fun v67 s68 =>
 pc s68 fun v69 s70 =>
 pc s70 fun v71 s72 =>
 evBin2 tbx .sub 3 v65 v69 fun v73 =>
 evBin2 tbx .geq 3 v73 (.i .i64 2) fun v74 =>
 brB v74 (
 evBin2 tbx .add 3 v69 (.i .i64 1) fun v75 =>
 jp (fun (s76 : VT [0, 1, 2, 3, 9, 10]) h n =>
 pc s76 fun v78 s79 =>
 pc s79 fun v80 s81 =>
 pc s81 fun v82 s83 =>
 pc s83 fun v84 s85 =>
 pc s85 fun v86 s87 =>
 pc s87 fun v88 s89 =>
 kk20 (v78, v80, v82, v84, v86, v88, ()) h n) fun kk77 =>
 lpC [0, 1, 2, 3, 9, 10, 12] (fun lo91 s90 h n =>
 pc s90 fun v92 s93 =>
 pc s93 fun v94 s95 =>
 pc s95 fun v96 s97 =>
 pc s97 fun v98 s99 =>
 pc s99 fun v100 s101 =>
 pc s101 fun v102 s103 =>
 pc s103 fun v104 s105 =>
 evBin2 tbx .lss 3 v104 v96 fun v106 =>
 brB v106 (
 jp (fun (s107 : VT [0, 1, 2, 3, 9, 10, 12]) h n =>
 pc s107 fun v109 s110 =>
 pc s110 fun v111 s112 =>
 pc s112 fun v113 s114 =>
 pc s114 fun v115 s116 =>
 pc s116 fun v117 s118 =>
 pc s118 fun v119 s120 =>
 pc s120 fun v121 s122 =>
 evBin2 tbx .add 3 v121 (.i .i64 1) fun v123 =>
 lo91 (v109, v111, v113, v115, v117, v119, v123, ()) h n) fun kk108 =>
 evIa tbx 79 v92 v104 fun v124 =>
 evLoad tbx 24 v124 h fun v125 =>
 evBin2 tbx .sub 3 v104 (.i .i64 1) fun v126 =>
 evIa tbx 79 v92 v126 fun v127 =>
 evLoad tbx 24 v127 h fun v128 =>
 evLoad tbx 24 v124 h fun w143 => cond (eqV 6 w143 v125) (
 evLoad tbx 24 v127 h fun w142 => cond (eqV 6 w142 v128) (
 evCall cf v98 [v125, v128] h n fun v129 h n =>
 evBin2 tbx .lss 3 v129 (.i .i64 0) fun v130 =>
 evUn .not v130 fun v131 =>
 brB v131 (
 kk77 (v92, v94, v96, v98, v100, v102, ()) h n) (
 evBin2 tbx .sub 3 v104 (.i .i64 1) fun v132 =>
 evBin2 tbx .sub 3 v104 (.i .i64 1) fun v133 =>
 evIa tbx 79 v92 v133 fun v134 =>
 evLoad tbx 24 v134 h fun v135 =>
 evIa tbx 79 v92 v104 fun v136 =>
 evLoad tbx 24 v136 h fun v137 =>
 evIa tbx 79 v92 v104 fun v138 =>
 evLoad tbx 24 v134 h fun w141 => cond (eqV 6 w141 v135) (
 evLoad tbx 24 v136 h fun w140 => cond (eqV 6 w140 v137) (
 evStore tbx 24 v138 v135 h n fun _ h n =>
 evIa tbx 79 v92 v132 fun v139 =>
 evStore tbx 24 v139 v137 h n fun _ h n =>
 kk108 (v92, v94, v96, v98, v100, v102, v104, ()) h n) none) none)) none) none) (
 kk77 (v92, v94, v96, v98, v100, v102, ()) h n)) fu (v61, v63, v65, v67, v69, v71, v75, ()) h n) (
 kk20 (v61, v63, v65, v67, v69, v71, ()) h n)) fun kk60 =>
 evBin2 tbx .sub 3 v44 v38 fun v144 =>
 evBin2 tbx .geq 3 v144 (.i .i64 2) fun v145 =>
 brB v145 (
 evBin2 tbx .sub 3 v44 (.i .i64 1) fun v146 =>
 jp (fun (s147 : VT [0, 1, 2, 3, 9, 10]) h n =>
 pc s147 fun v149 s150 =>
 pc s150 fun v151 s152 =>
 pc s152 fun v153 s154 =>
 pc s154 fun v155 s156 =>
 pc s156 fun v157 s158 =>
 pc s158 fun v159 s160 =>
 kk60 (v149, v151, v153, v155, v157, v159, ()) h n) fun kk148 =>
 lpC [0, 1, 2, 3, 9, 10, 11] (fun lo162 s161 h n =>
 pc s161 fun v163 s164 =>
 pc s164 fun v165 s166 =>
 pc s166 fun v167 s168 =>
 pc s168 fun v169 s170 =>
 pc s170 fun v171 s172 =>
 pc s172 fun v173 s174 =>
 pc s174 fun v175 s176 =>
 evBin2 tbx .geq 3 v175 (.i .i64 1) fun v177 =>
 brB v177 (
 jp (fun (s178 : VT [0, 1, 2, 3, 9, 10, 11]) h n =>
 pc s178 fun v180 s181 =>
 pc s181 fun v182 s183 =>
 pc s183 fun v184 s185 =>
 pc s185 fun v186 s187 =>
 pc s187 fun v188 s189 =>
 pc s189 fun v190 s191 =>
 pc s191 fun v192 s193 =>
 evBin2 tbx .sub 3 v192 (.i .i64 1) fun v194 =>
 lo162 (v180, v182, v184, v186, v188, v190, v194, ()) h n) fun kk179 =>
 evIa tbx 79 v163 v175 fun v195 =>
 evLoad tbx 24 v195 h fun v196 =>
 evBin2 tbx .sub 3 v175 (.i .i64 1) fun v197 =>
 evIa tbx 79 v163 v197 fun v198 =>
 evLoad tbx 24 v198 h fun v199 =>
 evLoad tbx 24 v195 h fun w214 => cond (eqV 6 w214 v196) (
 evLoad tbx 24 v198 h fun w213 => cond (eqV 6 w213 v199) (
 evCall cf v169 [v196, v199] h n fun v200 h n =>
 evBin2 tbx .lss 3 v200 (.i .i64 0) fun v201 =>
 evUn .not v201 fun v202 =>
 brB v202 (
 kk148 (v163, v165, v167, v169, v171, v173, ()) h n) (
 evBin2 tbx .sub 3 v175 (.i .i64 1) fun v203 =>
 evBin2 tbx .sub 3 v175 (.i .i64 1) fun v204 =>
 evIa tbx 79 v163 v204 fun v205 =>
 evLoad tbx 24 v205 h fun v206 =>
 evIa tbx 79 v163 v175 fun v207 =>
 evLoad tbx 24 v207 h fun v208 =>
 evIa tbx 79 v163 v175 fun v209 =>
 evLoad tbx 24 v205 h fun w212 => cond (eqV 6 w212 v206) (
 evLoad tbx 24 v207 h fun w211 => cond (eqV 6 w211 v208) (
 evStore tbx 24 v209 v206 h n fun _ h n =>
 evIa tbx 79 v163 v203 fun v210 =>
 evStore tbx 24 v210 v208 h n fun _ h n =>
 kk179 (v163, v165, v167, v169, v171, v173, v175, ()) h n) none) none)) none) none) (
 kk148 (v163, v165, v167, v169, v171, v173, ()) h n)) fu (v36, v38, v40, v42, v44, v46, v146, ()) h n) (
 kk60 (v36, v38, v40, v42, v44, v46, ()) h n)) none) none))) fun kk35 =>
 lpC [0, 1, 2, 3, 9, 10] (fun lo218 s217 h n =>
 pc s217 fun v219 s220 =>
 pc s220 fun v221 s222 =>
 pc s222 fun v223 s224 =>
 pc s224 fun v225 s226 =>
 pc s226 fun v227 s228 =>
 pc s228 fun v229 s230 =>
 evBin2 tbx .lss 3 v227 v223 fun v231 =>
 jp (fun (v232 : V) h n =>
 jp (fun (v234 : V) h n =>
 jp (fun (v236 : V) h n =>
 jp (fun (v238 : V) h n =>
 jp (fun (v240 : V) h n =>
 jp (fun (v242 : V) h n =>
 jp (fun (v244 : V) h n =>
 jp (fun (v246 : V) h n =>
 jp (fun (v248 : V) h n =>
 jp (fun (v250 : V) h n =>
 thenR (wsB (wV v231 true) (evLoad tbx 24 v238 h fun w252 => cond (eqV 6 w252 v240) (okR) none) (cond (eqV 2 v240 (.tp [])) okR none)) (
 thenR (wsB (wV v231 true) (evLoad tbx 24 v248 h fun w253 => cond (eqV 6 w253 v250) (okR) none) (cond (eqV 2 v250 (.tp [])) okR none)) (
 jp (fun (v254 : V) h n =>
 jp (fun (v256 : V) h n =>
 jp (fun (v258 : V) h n =>
 evPick v231 v258 (.b false) fun v260 =>
 brB v260 (
 jp (fun (s261 : VT [0, 1, 2, 3, 9, 10]) h n =>
 pc s261 fun v263 s264 =>
 pc s264 fun v265 s266 =>
 pc s266 fun v267 s268 =>
 pc s268 fun v269 s270 =>
 pc s270 fun v271 s272 =>
 pc s272 fun v273 s274 =>
 lo218 (v263, v265, v267, v269, v271, v273, ()) h n) fun kk262 =>
 evBin2 tbx .add 3 v227 (.i .i64 1) fun v275 =>
 kk262 (v219, v221, v223, v225, v275, v229, ()) h n) (
 kk35 (v219, v221, v223, v225, v227, v229, ()) h n)) fun kk259 =>
 wsB (wV v231 true) ((evUn .not v256 fun v => kk259 v h n)) (kk259 (.tp []) h n)) fun kk257 =>
 wsB (wV v231 true) ((evBin2 tbx .lss 3 v254 (.i .i64 0) fun v => kk257 v h n)) (kk257 (.tp []) h n)) fun kk255 =>
 wsB (wV v231 true) ((evCall cf v232 [v240, v250] h n kk255)) (kk255 (.tp []) h n)))) fun kk251 =>
 wsB (wV v231 true) ((evLoad tbx 24 v248 h fun v => kk251 v h n)) (kk251 (.tp []) h n)) fun kk249 =>
 wsB (wV v231 true) ((evIa tbx 79 v242 v246 fun v => kk249 v h n)) (kk249 (.tp []) h n)) fun kk247 =>
 wsB (wV v231 true) ((evBin2 tbx .sub 3 v244 (.i .i64 1) fun v => kk247 v h n)) (kk247 (.tp []) h n)) fun kk245 =>
 wsB (wV v231 true) (kk245 v227 h n) (kk245 (.tp []) h n)) fun kk243 =>
 wsB (wV v231 true) (kk243 v219 h n) (kk243 (.tp []) h n)) fun kk241 =>
 wsB (wV v231 true) ((evLoad tbx 24 v238 h fun v => kk241 v h n)) (kk241 (.tp []) h n)) fun kk239 =>
 wsB (wV v231 true) ((evIa tbx 79 v234 v236 fun v => kk239 v h n)) (kk239 (.tp []) h n)) fun kk237 =>
 wsB (wV v231 true) (kk237 v227 h n) (kk237 (.tp []) h n)) fun kk235 =>
 wsB (wV v231 true) (kk235 v219 h n) (kk235 (.tp []) h n)) fun kk233 =>
 wsB (wV v231 true) (kk233 v225 h n) (kk233 (.tp []) h n)) fu (v6, v8, v10, v12, v14, v16, ()) h n) (
 kk3 (()) h n)) fu (a0, a1, a2, a3, v1, (.i .i64 0), ()) h n
noncomputable def e82 : FE := ⟨Tryz.f82, bd Tryz.f82, [0, 1, 2, 3], [8], (.q .z (.q .z (.q (.q .z (.b [] (.l [0, 1, 2, 3, 9, 10] (.q (.q .z (.c .z .z)) (.q (.b [0, 1, 2, 3, 9, 10] (.q (.b [0, 1, 2, 3, 9, 10] (.l [0, 1, 2, 3, 9, 10] (.q (.q .z (.c .z .z)) (.b [0, 1, 2, 3, 9, 10] .z)))) (.q (.q .z (.c (.q .z .z) .z)) (.q (.q .z (.c (.q .z .z) .z)) (.q .z (.s [0, 1, 2, 3, 9, 10] (.q .z (.c (.q .z (.b [0, 1, 2, 3, 9, 10] (.l [0, 1, 2, 3, 9, 10, 11] (.q (.q .z (.c .z .z)) (.q (.b [0, 1, 2, 3, 9, 10, 11] (.q (.q .z (.c .z .z)) .z)) .z))))) .z)) (.q .z (.c (.q .z (.b [0, 1, 2, 3, 9, 10] (.l [0, 1, 2, 3, 9, 10, 12] (.q (.q .z (.c .z .z)) (.q (.b [0, 1, 2, 3, 9, 10, 12] (.q (.q .z (.c .z .z)) .z)) .z))))) .z)))))))) .z))))) (.q .z .z))))⟩
theorem q82 (fu : Nat) (cf : CF) (a0 a1 a2 a3 : V) (h : H) (n : Id) (k : KV) : evF fu cf e82 [a0, a1, a2, a3] h n k = s82 fu cf a0 a1 a2 a3 h n k := by kernel_rfl
theorem p82 : PfOk Tryz.prog tbx mtab 82 (w4 (s82 fuX)) := pfo e82 Tryz.func82 (by kernel_rfl) (w4_ok (q82 fuX))
end Go.Proofs.Nw.X
end
