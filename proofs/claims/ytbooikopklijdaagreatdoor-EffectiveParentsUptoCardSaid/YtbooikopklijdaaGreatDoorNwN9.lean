/- Bundle: NwXN2. -/
import Derived.Test.YtbooikopklijdaaGreatDoorNwN8
set_option linter.constructorNameAsVariable false
set_option linter.unusedVariables false
set_option linter.unusedSimpArgs false
set_option linter.unusedSectionVars false
section
/- printed by xg.py: seat F's functions, 2. -/
open Go Go.RowKit Go.Proofs
set_option linter.unusedVariables false
set_option maxRecDepth 100000
namespace Go.Proofs.Nw.X
open Go.Proofs.Nw.K
noncomputable def s53 (fu : Nat) (cf : CF) (a0 a1 a2 a3 a4 : V) (h : H) (n : Id) (k : KV) : R :=
 jp (fun (s1 : VT []) h n =>
 k (.tp []) h n) fun kk2 =>
 lpC [0, 1, 2, 3, 4, 10, 11] (fun lo4 s3 h n =>
 pc s3 fun v5 s6 =>
 pc s6 fun v7 s8 =>
 pc s8 fun v9 s10 =>
 pc s10 fun v11 s12 =>
 pc s12 fun v13 s14 =>
 pc s14 fun v15 s16 =>
 pc s16 fun v17 s18 =>
 jp (fun (s19 : VT [0, 1, 2, 3, 4, 10, 11]) h n =>
 pc s19 fun v21 s22 =>
 pc s22 fun v23 s24 =>
 pc s24 fun v25 s26 =>
 pc s26 fun v27 s28 =>
 pc s28 fun v29 s30 =>
 pc s30 fun v31 s32 =>
 pc s32 fun v33 s34 =>
 lo4 (v21, v23, v25, v27, v29, v31, v33, ()) h n) fun kk20 =>
 evBin2 tbx .sub 3 v9 v7 fun v35 =>
 evBin2 tbx .leq 3 v35 (.i .i64 12) fun v36 =>
 brB v36 (
 cf 77 [v5, v7, v9, v13] h n fun v37 h n =>
 k (.tp []) h n) (
 evBin2 tbx .eql 3 v11 (.i .i64 0) fun v38 =>
 brB v38 (
 cf 78 [v5, v7, v9, v13] h n fun v39 h n =>
 k (.tp []) h n) (
 jp (fun (s40 : VT [0, 1, 2, 3, 4, 10, 11, 12]) h n =>
 pc s40 fun v42 s43 =>
 pc s43 fun v44 s45 =>
 pc s45 fun v46 s47 =>
 pc s47 fun v48 s49 =>
 pc s49 fun v50 s51 =>
 pc s51 fun v52 s53 =>
 pc s53 fun v54 s55 =>
 pc s55 fun v56 s57 =>
 cf 80 [v42, v44, v46, v50] h n fun v58 h n =>
 evExt 0 v58 fun v59 =>
 evExt 1 v58 fun v60 =>
 jp (fun (s61 : VT [0, 1, 2, 3, 4, 10, 11, 12, 13, 14]) h n =>
 pc s61 fun v63 s64 =>
 pc s64 fun v65 s66 =>
 pc s66 fun v67 s68 =>
 pc s68 fun v69 s70 =>
 pc s70 fun v71 s72 =>
 pc s72 fun v73 s74 =>
 pc s74 fun v75 s76 =>
 pc s76 fun v77 s78 =>
 pc s78 fun v79 s80 =>
 pc s80 fun v81 s82 =>
 jp (fun (s83 : VT [0, 1, 2, 3, 4, 10, 11, 12, 13]) h n =>
 pc s83 fun v85 s86 =>
 pc s86 fun v87 s88 =>
 pc s88 fun v89 s90 =>
 pc s90 fun v91 s92 =>
 pc s92 fun v93 s94 =>
 pc s94 fun v95 s96 =>
 pc s96 fun v97 s98 =>
 pc s98 fun v99 s100 =>
 pc s100 fun v101 s102 =>
 evBin2 tbx .gtr 3 v87 (.i .i64 0) fun v103 =>
 jp (fun (v104 : V) h n =>
 jp (fun (v106 : V) h n =>
 jp (fun (v108 : V) h n =>
 jp (fun (v110 : V) h n =>
 jp (fun (v112 : V) h n =>
 jp (fun (v114 : V) h n =>
 jp (fun (v116 : V) h n =>
 jp (fun (v118 : V) h n =>
 jp (fun (v120 : V) h n =>
 jp (fun (v122 : V) h n =>
 thenR (wsB (wV v103 true) (evLoad tbx 24 v112 h fun w124 => cond (eqV 6 w124 v114) (okR) none) (cond (eqV 2 v114 (.tp [])) okR none)) (
 thenR (wsB (wV v103 true) (evLoad tbx 24 v120 h fun w125 => cond (eqV 6 w125 v122) (okR) none) (cond (eqV 2 v122 (.tp [])) okR none)) (
 jp (fun (v126 : V) h n =>
 jp (fun (v128 : V) h n =>
 jp (fun (v130 : V) h n =>
 evPick v103 v130 (.b false) fun v132 =>
 brB v132 (
 cf 83 [v85, v87, v89, v101, v93] h n fun v133 h n =>
 kk20 (v85, v133, v89, v91, v93, v95, v97, ()) h n) (
 cf 84 [v85, v87, v89, v101, v93] h n fun v134 h n =>
 evExt 0 v134 fun v135 =>
 evExt 1 v134 fun v136 =>
 evBin2 tbx .sub 3 v135 v87 fun v137 =>
 evBin2 tbx .sub 3 v89 v135 fun v138 =>
 evBin2 tbx .quo 3 v99 (.i .i64 8) fun v139 =>
 evBin2 tbx .lss 3 v137 v138 fun v140 =>
 brB v140 (
 evBin2 tbx .geq 3 v137 v139 fun v141 =>
 cf 53 [v85, v87, v135, v91, v93] h n fun v142 h n =>
 evBin2 tbx .add 3 v135 (.i .i64 1) fun v143 =>
 kk20 (v85, v143, v89, v91, v93, v141, v136, ()) h n) (
 evBin2 tbx .geq 3 v138 v139 fun v144 =>
 evBin2 tbx .add 3 v135 (.i .i64 1) fun v145 =>
 cf 53 [v85, v145, v89, v91, v93] h n fun v146 h n =>
 kk20 (v85, v87, v135, v91, v93, v144, v136, ()) h n))) fun kk131 =>
 wsB (wV v103 true) ((evUn .not v128 fun v => kk131 v h n)) (kk131 (.tp []) h n)) fun kk129 =>
 wsB (wV v103 true) ((evBin2 tbx .lss 3 v126 (.i .i64 0) fun v => kk129 v h n)) (kk129 (.tp []) h n)) fun kk127 =>
 wsB (wV v103 true) ((evCall cf v104 [v114, v122] h n kk127)) (kk127 (.tp []) h n)))) fun kk123 =>
 wsB (wV v103 true) ((evLoad tbx 24 v120 h fun v => kk123 v h n)) (kk123 (.tp []) h n)) fun kk121 =>
 wsB (wV v103 true) ((evIa tbx 79 v116 v118 fun v => kk121 v h n)) (kk121 (.tp []) h n)) fun kk119 =>
 wsB (wV v103 true) (kk119 v101 h n) (kk119 (.tp []) h n)) fun kk117 =>
 wsB (wV v103 true) (kk117 v85 h n) (kk117 (.tp []) h n)) fun kk115 =>
 wsB (wV v103 true) ((evLoad tbx 24 v112 h fun v => kk115 v h n)) (kk115 (.tp []) h n)) fun kk113 =>
 wsB (wV v103 true) ((evIa tbx 79 v106 v110 fun v => kk113 v h n)) (kk113 (.tp []) h n)) fun kk111 =>
 wsB (wV v103 true) ((evBin2 tbx .sub 3 v108 (.i .i64 1) fun v => kk111 v h n)) (kk111 (.tp []) h n)) fun kk109 =>
 wsB (wV v103 true) (kk109 v87 h n) (kk109 (.tp []) h n)) fun kk107 =>
 wsB (wV v103 true) (kk107 v85 h n) (kk107 (.tp []) h n)) fun kk105 =>
 wsB (wV v103 true) (kk105 v93 h n) (kk105 (.tp []) h n)) fun kk84 =>
 jp (fun (v147 : V) h n =>
 evPick v73 v147 (.b false) fun v149 =>
 jp (fun (v150 : V) h n =>
 jp (fun (v152 : V) h n =>
 evPick v149 v152 (.b false) fun v154 =>
 brB v154 (
 cf 82 [v63, v65, v67, v71] h n fun v155 h n =>
 brB v155 (
 k (.tp []) h n) (
 kk84 (v63, v65, v67, v69, v71, v73, v75, v77, v79, ()) h n)) (
 kk84 (v63, v65, v67, v69, v71, v73, v75, v77, v79, ()) h n)) fun kk153 =>
 gdB v149 true ((evBin2 tbx .eql 138 v150 (.i .i64 1) fun v => kk153 v h n)) (kk153 (.tp []) h n)) fun kk151 =>
 gdB v149 true (kk151 v81 h n) (kk151 (.tp []) h n)) fun kk148 =>
 gdB v73 true (kk148 v75 h n) (kk148 (.tp []) h n)) fun kk62 =>
 evBin2 tbx .eql 138 v60 (.i .i64 2) fun v156 =>
 brB v156 (
 cf 81 [v42, v44, v46, v50] h n fun v157 h n =>
 evBin2 tbx .sub 3 v46 (.i .i64 1) fun v158 =>
 evBin2 tbx .sub 3 v59 v44 fun v159 =>
 evBin2 tbx .sub 3 v158 v159 fun v160 =>
 kk62 (v42, v44, v46, v48, v50, v52, v54, v56, v160, (.i .i64 1), ()) h n) (
 kk62 (v42, v44, v46, v48, v50, v52, v54, v56, v59, v60, ()) h n)) fun kk41 =>
 evUn .not v15 fun v161 =>
 brB v161 (
 cf 79 [v5, v7, v9, v13] h n fun v162 h n =>
 evBin2 tbx .sub 3 v11 (.i .i64 1) fun v163 =>
 kk41 (v5, v7, v9, v163, v13, v15, v17, v35, ()) h n) (
 kk41 (v5, v7, v9, v11, v13, v15, v17, v35, ()) h n)))) fu (a0, a1, a2, a3, a4, (.b true), (.b true), ()) h n
noncomputable def e53 : FE := ⟨Tryz.f53, bd Tryz.f53, [0, 1, 2, 3, 4], [], (.q .z (.q .z (.b [] (.l [0, 1, 2, 3, 4, 10, 11] (.b [0, 1, 2, 3, 4, 10, 11] (.q .z (.q (.q .z (.c (.q .z .z) .z)) (.q (.q .z (.c (.q .z .z) .z)) (.s [0, 1, 2, 3, 4, 10, 11, 12] (.q .z (.c (.q .z .z) .z)) (.q .z (.s [0, 1, 2, 3, 4, 10, 11, 12, 13, 14] (.q .z (.c (.q .z (.q .z .z)) .z)) (.s [0, 1, 2, 3, 4, 10, 11, 12, 13] (.q .z (.c (.q .z (.c .z .z)) .z)) (.q (.q .z (.c (.q .z (.q .z .z)) .z)) (.q .z (.q .z (.q .z (.q .z (.q .z (.c (.q .z (.q .z .z)) (.q .z (.q .z .z)))))))))))))))))))))⟩
theorem q53 (fu : Nat) (cf : CF) (a0 a1 a2 a3 a4 : V) (h : H) (n : Id) (k : KV) : evF fu cf e53 [a0, a1, a2, a3, a4] h n k = s53 fu cf a0 a1 a2 a3 a4 h n k := by kernel_rfl
theorem p53 : PfOk Tryz.prog tbx mtab 53 (w5 (s53 fuX)) := pfo e53 Tryz.func53 (by kernel_rfl) (w5_ok (q53 fuX))
noncomputable def s54 (fu : Nat) (cf : CF) (a0 : V) (h : H) (n : Id) (k : KV) : R :=
 brB (.b false) (
 evConv2 tbx mtab 22 146 a0 h n fun v1 h n =>
 cf 85 [v1] h n fun v2 h n =>
 k v2 h n) (
 cf 86 [a0] h n fun v3 h n =>
 k v3 h n)
noncomputable def e54 : FE := ⟨Tryz.f54, bd Tryz.f54, [0], [2], (.q .z (.q (.c (.q .z .z) .z) (.q .z .z)))⟩
theorem q54 (fu : Nat) (cf : CF) (a0 : V) (h : H) (n : Id) (k : KV) : evF fu cf e54 [a0] h n k = s54 fu cf a0 h n k := by kernel_rfl
theorem p54 : PfOk Tryz.prog tbx mtab 54 (w1 (s54 fuX)) := pfo e54 Tryz.func54 (by kernel_rfl) (w1_ok (q54 fuX))
noncomputable def s55 (fu : Nat) (cf : CF) (a0 : V) (h : H) (n : Id) (k : KV) : R :=
 evLen tbx 149 a0 fun v1 =>
 jp (fun (s2 : VT [3]) h n =>
 pc s2 fun v4 s5 =>
 k v4 h n) fun kk3 =>
 lpC [3, 6, 7, 8] (fun lo7 s6 h n =>
 pc s6 fun v8 s9 =>
 pc s9 fun v10 s11 =>
 pc s11 fun v12 s13 =>
 pc s13 fun v14 s15 =>
 evBin2 tbx .lss 3 v14 v12 fun v16 =>
 brB v16 (
 jp (fun (s17 : VT [3, 6, 7, 8]) h n =>
 pc s17 fun v19 s20 =>
 pc s20 fun v21 s22 =>
 pc s22 fun v23 s24 =>
 pc s24 fun v25 s26 =>
 evBin2 tbx .add 3 v25 (.i .i64 1) fun v27 =>
 lo7 (v19, v21, v23, v27, ()) h n) fun kk18 =>
 evIa tbx 149 v10 v14 fun v28 =>
 evLoad tbx 3 v28 h fun v29 =>
 evBin2 tbx .neq 3 v29 v8 fun v30 =>
 brB v30 (
 k v29 h n) (
 kk18 (v8, v10, v12, v14, ()) h n)) (
 kk3 (v8, ()) h n)) fu ((.i .i64 0), a0, v1, (.i .i64 0), ()) h n
noncomputable def e55 : FE := ⟨Tryz.f55, bd Tryz.f55, [0], [2], (.q .z (.q .z (.q (.q .z (.b [3] (.l [3, 6, 7, 8] (.q .z (.q (.c .z .z) (.q (.b [3, 6, 7, 8] (.q .z (.q .z (.c (.q .z .z) .z)))) .z)))))) (.q .z .z))))⟩
theorem q55 (fu : Nat) (cf : CF) (a0 : V) (h : H) (n : Id) (k : KV) : evF fu cf e55 [a0] h n k = s55 fu cf a0 h n k := by kernel_rfl
theorem p55 : PfOk Tryz.prog tbx mtab 55 (w1 (s55 fuX)) := pfo e55 Tryz.func55 (by kernel_rfl) (w1_ok (q55 fuX))
noncomputable def s56 (fu : Nat) (cf : CF) (a0 a1 : V) (h : H) (n : Id) (k : KV) : R :=
 cf 87 [a0] h n fun v1 h n =>
 cf 87 [a1] h n fun v2 h n =>
 brB v1 (
 brB v2 (
 k (.i .i64 0) h n) (
 k (.i .i64 (-1)) h n)) (
 brB v2 (
 k (.i .i64 1) h n) (
 evBin2 tbx .lss 9 a0 a1 fun v3 =>
 brB v3 (
 k (.i .i64 (-1)) h n) (
 evBin2 tbx .gtr 9 a0 a1 fun v4 =>
 brB v4 (
 k (.i .i64 1) h n) (
 k (.i .i64 0) h n))))
noncomputable def e56 : FE := ⟨Tryz.f56, bd Tryz.f56, [0, 1], [4], (.q .z (.q .z (.q .z (.q (.q .z (.c (.q (.q .z (.c (.q .z .z) .z)) (.q .z .z)) .z)) (.q (.q .z (.c (.q .z .z) .z)) (.q (.q .z (.c (.q .z .z) .z)) (.q (.q .z (.c (.q .z .z) .z)) (.q .z .z))))))))⟩
theorem q56 (fu : Nat) (cf : CF) (a0 a1 : V) (h : H) (n : Id) (k : KV) : evF fu cf e56 [a0, a1] h n k = s56 fu cf a0 a1 h n k := by kernel_rfl
theorem p56 : PfOk Tryz.prog tbx mtab 56 (w2 (s56 fuX)) := pfo e56 Tryz.func56 (by kernel_rfl) (w2_ok (q56 fuX))
noncomputable def s57 (fu : Nat) (cf : CF) (a0 a1 : V) (h : H) (n : Id) (k : KV) : R :=
 cf 89 [a0] h n fun v1 h n =>
 cf 89 [a1] h n fun v2 h n =>
 cf 88 [v1, v2] h n fun v3 h n =>
 k v3 h n
noncomputable def e57 : FE := ⟨Tryz.f57, bd Tryz.f57, [0, 1], [4], (.q .z (.q .z .z))⟩
theorem q57 (fu : Nat) (cf : CF) (a0 a1 : V) (h : H) (n : Id) (k : KV) : evF fu cf e57 [a0, a1] h n k = s57 fu cf a0 a1 h n k := by kernel_rfl
theorem p57 : PfOk Tryz.prog tbx mtab 57 (w2 (s57 fuX)) := pfo e57 Tryz.func57 (by kernel_rfl) (w2_ok (q57 fuX))
noncomputable def s58 (fu : Nat) (cf : CF) (a0 : V) (h : H) (n : Id) (k : KV) : R :=
 jp (fun (s3 : VT [2]) h n =>
 pc s3 fun v6 s7 =>
 k v6 h n) fun kk1 =>
 jp (lpC [0] (fun lo5 s4 h n =>
 pc s4 fun v8 s9 =>
 evIx tbx 9 v8 (.i .i64 0) fun v10 =>
 cf 90 [v10] h n fun v11 h n =>
 evUn .not v11 fun v12 =>
 brB v12 (
 k (.b false) h n) (
 evSlc tbx 9 v8 (some (.i .i64 1)) none fun v13 =>
 evBin2 tbx .neq 9 v13 (.s 0 0) fun v14 =>
 brB v14 (
 lo5 (v13, ()) h n) (
 k (.b true) h n))) fu) fun lo2 =>
 evBin2 tbx .eql 9 a0 (.s 0 0) fun v15 =>
 jp (fun (v16 : V) h n =>
 jp (fun (v18 : V) h n =>
 jp (fun (v20 : V) h n =>
 evPick v15 (.b true) v20 fun v22 =>
 brB v22 (
 k (.b false) h n) (
 evIx tbx 9 a0 (.i .i64 0) fun v23 =>
 cf 90 [v23] h n fun v24 h n =>
 evUn .not v24 fun v25 =>
 brB v25 (
 k (.b false) h n) (
 evSlc tbx 9 a0 (some (.i .i64 1)) none fun v26 =>
 evBin2 tbx .neq 9 v26 (.s 0 0) fun v27 =>
 brB v27 (
 lo2 (v26, ()) h n) (
 k (.b true) h n)))) fun kk21 =>
 gdB v15 false ((evBin2 tbx .gtr 3 v18 (.i .i64 500) fun v => kk21 v h n)) (kk21 (.tp []) h n)) fun kk19 =>
 gdB v15 false ((evLen tbx 9 v16 fun v => kk19 v h n)) (kk19 (.tp []) h n)) fun kk17 =>
 gdB v15 false (kk17 a0 h n) (kk17 (.tp []) h n)
noncomputable def e58 : FE := ⟨Tryz.f58, bd Tryz.f58, [0], [2], (.q .z (.g 0 [0] [2] (.q (.q .z (.c (.q .z .z) .z)) (.q .z (.q (.q .z (.c (.q .z .z) .z)) (.q .z (.q (.q .z (.c .z .z)) (.q .z .z)))))) (.q .z (.q (.q .z (.c (.q .z .z) .z)) (.q .z (.q (.q .z (.c .z .z)) (.q .z .z)))))))⟩
theorem q58 (fu : Nat) (cf : CF) (a0 : V) (h : H) (n : Id) (k : KV) : evF fu cf e58 [a0] h n k = s58 fu cf a0 h n k := by kernel_rfl
theorem p58 : PfOk Tryz.prog tbx mtab 58 (w1 (s58 fuX)) := pfo e58 Tryz.func58 (by kernel_rfl) (w1_ok (q58 fuX))
noncomputable def s59 (fu : Nat) (cf : CF) (a0 : V) (h : H) (n : Id) (k : KV) : R :=
 evLen tbx 9 a0 fun v1 =>
 evBin2 tbx .geq 3 v1 (.i .i64 1) fun v2 =>
 jp (fun (v3 : V) h n =>
 jp (fun (v5 : V) h n =>
 jp (fun (v7 : V) h n =>
 evPick v2 v7 (.b false) fun v9 =>
 jp (fun (v10 : V) h n =>
 jp (fun (v12 : V) h n =>
 jp (fun (v14 : V) h n =>
 jp (fun (v16 : V) h n =>
 evPick v9 v16 (.b false) fun v18 =>
 k v18 h n) fun kk17 =>
 gdB v9 true ((evUn .not v14 fun v => kk17 v h n)) (kk17 (.tp []) h n)) fun kk15 =>
 gdB v9 true ((cf 91 [v12, (.fn 92 [])] h n kk15)) (kk15 (.tp []) h n)) fun kk13 =>
 gdB v9 true ((evConv2 tbx mtab 9 73 v10 h n kk13)) (kk13 (.tp []) h n)) fun kk11 =>
 gdB v9 true (kk11 a0 h n) (kk11 (.tp []) h n)) fun kk8 =>
 gdB v2 true ((evBin2 tbx .leq 3 v5 (.i .i64 100) fun v => kk8 v h n)) (kk8 (.tp []) h n)) fun kk6 =>
 gdB v2 true ((evLen tbx 9 v3 fun v => kk6 v h n)) (kk6 (.tp []) h n)) fun kk4 =>
 gdB v2 true (kk4 a0 h n) (kk4 (.tp []) h n)
noncomputable def e59 : FE := ⟨Tryz.f59, bd Tryz.f59, [0], [2], (.q .z (.q .z .z))⟩
theorem q59 (fu : Nat) (cf : CF) (a0 : V) (h : H) (n : Id) (k : KV) : evF fu cf e59 [a0] h n k = s59 fu cf a0 h n k := by kernel_rfl
theorem p59 : PfOk Tryz.prog tbx mtab 59 (w1 (s59 fuX)) := pfo e59 Tryz.func59 (by kernel_rfl) (w1_ok (q59 fuX))
noncomputable def s60 (fu : Nat) (cf : CF) (a0 a1 : V) (h : H) (n : Id) (k : KV) : R :=
 cf 94 [a0, a1] h n fun v1 h n =>
 evBin2 tbx .geq 3 v1 (.i .i64 0) fun v2 =>
 k v2 h n
noncomputable def e60 : FE := ⟨Tryz.f60, bd Tryz.f60, [0, 1], [4], (.q .z (.q .z .z))⟩
theorem q60 (fu : Nat) (cf : CF) (a0 a1 : V) (h : H) (n : Id) (k : KV) : evF fu cf e60 [a0, a1] h n k = s60 fu cf a0 a1 h n k := by kernel_rfl
theorem p60 : PfOk Tryz.prog tbx mtab 60 (w2 (s60 fuX)) := pfo e60 Tryz.func60 (by kernel_rfl) (w2_ok (q60 fuX))
noncomputable def s61 (fu : Nat) (cf : CF) (a0 a1 : V) (h : H) (n : Id) (k : KV) : R :=
 evBox a1 h n fun v1 h n =>
 evLen tbx 79 a0 fun v2 =>
 jp (fun (s3 : VT []) h n =>
 k (.i .i64 (-1)) h n) fun kk4 =>
 lpC [0, 3, 7, 8] (fun lo6 s5 h n =>
 pc s5 fun v7 s8 =>
 pc s8 fun v9 s10 =>
 pc s10 fun v11 s12 =>
 pc s12 fun v13 s14 =>
 evBin2 tbx .lss 3 v13 v11 fun v15 =>
 brB v15 (
 jp (fun (s16 : VT [0, 3, 7, 8]) h n =>
 pc s16 fun v18 s19 =>
 pc s19 fun v20 s21 =>
 pc s21 fun v22 s23 =>
 pc s23 fun v24 s25 =>
 evBin2 tbx .add 3 v24 (.i .i64 1) fun v26 =>
 lo6 (v18, v20, v22, v26, ()) h n) fun kk17 =>
 evLoad tbx 24 v9 h fun v27 =>
 evIa tbx 79 v7 v13 fun v28 =>
 evLoad tbx 24 v28 h fun v29 =>
 evBin2 tbx .eql 24 v27 v29 fun v30 =>
 evLoad tbx 24 v9 h fun w32 => cond (eqV 6 w32 v27) (
 evLoad tbx 24 v28 h fun w31 => cond (eqV 6 w31 v29) (
 brB v30 (
 k v13 h n) (
 kk17 (v7, v9, v11, v13, ()) h n)) none) none) (
 kk4 (()) h n)) fu (a0, v1, v2, (.i .i64 0), ()) h n
noncomputable def e61 : FE := ⟨Tryz.f61, bd Tryz.f61, [0, 1], [4], (.q .z (.q (.q .z (.b [] (.l [0, 3, 7, 8] (.q .z (.q (.c .z .z) (.q (.b [0, 3, 7, 8] (.q .z (.q .z (.c (.q .z .z) .z)))) .z)))))) (.q .z .z)))⟩
theorem q61 (fu : Nat) (cf : CF) (a0 a1 : V) (h : H) (n : Id) (k : KV) : evF fu cf e61 [a0, a1] h n k = s61 fu cf a0 a1 h n k := by kernel_rfl
theorem p61 : PfOk Tryz.prog tbx mtab 61 (w2 (s61 fuX)) := pfo e61 Tryz.func61 (by kernel_rfl) (w2_ok (q61 fuX))
noncomputable def s62 (fu : Nat) (cf : CF) (a0 : V) (h : H) (n : Id) (k : KV) : R :=
 cf 95 [a0] h n fun v1 h n =>
 evExt 0 v1 fun v2 =>
 evExt 1 v1 fun v3 =>
 evBin2 tbx .neq 33 v3 (.i .i64 0) fun v4 =>
 brB v4 (
 k (.tp [.ns, v3]) h n) (
 cf 96 [v2] h n fun v5 h n =>
 evExt 0 v5 fun v6 =>
 evExt 1 v5 fun v7 =>
 k (.tp [v6, v7]) h n)
noncomputable def e62 : FE := ⟨Tryz.f62, bd Tryz.f62, [0], [2, 3], (.q .z (.q .z (.q (.q .z (.c (.q .z .z) .z)) (.q .z .z))))⟩
theorem q62 (fu : Nat) (cf : CF) (a0 : V) (h : H) (n : Id) (k : KV) : evF fu cf e62 [a0] h n k = s62 fu cf a0 h n k := by kernel_rfl
theorem p62 : PfOk Tryz.prog tbx mtab 62 (w1 (s62 fuX)) := pfo e62 Tryz.func62 (by kernel_rfl) (w1_ok (q62 fuX))
noncomputable def s63 (fu : Nat) (cf : CF) (a0 : V) (h : H) (n : Id) (k : KV) : R :=
 evAlloc tbx 32 h n fun v1 h n =>
 jp (fun (s2 : VT [0, 2]) h n =>
 pc s2 fun v4 s5 =>
 pc s5 fun v6 s7 =>
 evLen tbx 114 v4 fun v8 =>
 evMkSl tbx 164 v8 v8 h n fun v9 h n =>
 evBuild tbx 166 [(0, v4), (1, v9)] fun v10 =>
 evBox v10 h n fun v11 h n =>
 evLen tbx 114 v4 fun v12 =>
 jp (fun (s13 : VT [2, 4]) h n =>
 pc s13 fun v15 s16 =>
 pc s16 fun v17 s18 =>
 evAlloc tbx 32 h n fun v19 h n =>
 evMkMap h n fun v20 h n =>
 evFa tbx 32 1 v19 fun v21 =>
 cf 99 [v17, v21] h n fun v22 h n =>
 evMapUpd mtab 177 v20 (.s 7 29117745638426980) v22 h n fun _ h n =>
 evFa tbx 32 2 v19 fun v23 =>
 cf 99 [v17, v23] h n fun v24 h n =>
 evMapUpd mtab 177 v20 (.s 10 460180866011107895298404) v24 h n fun _ h n =>
 evFa tbx 32 3 v19 fun v25 =>
 cf 99 [v17, v25] h n fun v26 h n =>
 evMapUpd mtab 177 v20 (.s 7 33325589488824174) v26 h n fun _ h n =>
 evFa tbx 32 4 v19 fun v27 =>
 cf 99 [v17, v27] h n fun v28 h n =>
 evMapUpd mtab 177 v20 (.s 9 2073052906965934108263) v28 h n fun _ h n =>
 evFa tbx 32 0 v19 fun v29 =>
 cf 100 [v17, v29] h n fun v30 h n =>
 evMapUpd mtab 177 v20 (.s 6 123563833388660) v30 h n fun _ h n =>
 evFa tbx 32 5 v19 fun v31 =>
 cf 101 [v17, v31] h n fun v32 h n =>
 evMapUpd mtab 177 v20 (.s 10 531016004935481008153971) v32 h n fun _ h n =>
 evFa tbx 32 6 v19 fun v33 =>
 cf 102 [v17, v33] h n fun v34 h n =>
 evMapUpd mtab 177 v20 (.s 20 573161243438715328014466462588970593706563694196) v34 h n fun _ h n =>
 evFa tbx 32 7 v19 fun v35 =>
 cf 103 [v17, v35] h n fun v36 h n =>
 evMapUpd mtab 177 v20 (.s 12 31071133266037411630683874675) v36 h n fun _ h n =>
 cf 98 [v17, (.i .i64 0), v20] h n fun v37 h n =>
 evFa tbx 32 2 v19 fun v38 =>
 evLoad tbx 9 v38 h fun v39 =>
 evBuildSl tbx 71 1 [(0, v39)] h n fun v40 h n =>
 cf 104 [v37, v40] h n fun v41 h n =>
 evBin2 tbx .neq 33 v41 (.i .i64 0) fun v42 =>
 brB v42 (
 evBuild tbx 32 [] fun v43 =>
 evStore tbx 32 v15 v43 h n fun _ h n =>
 evLoad tbx 32 v15 h fun v44 =>
 k (.tp [v44, v41]) h n) (
 evLoad tbx 32 v19 h fun v45 =>
 evStore tbx 32 v15 v45 h n fun _ h n =>
 evLoad tbx 32 v15 h fun v46 =>
 k (.tp [v46, (.i .i64 0)]) h n)) fun kk14 =>
 lpC [2, 4, 28, 29, 30] (fun lo48 s47 h n =>
 pc s47 fun v49 s50 =>
 pc s50 fun v51 s52 =>
 pc s52 fun v53 s54 =>
 pc s54 fun v55 s56 =>
 pc s56 fun v57 s58 =>
 evBin2 tbx .lss 3 v57 v55 fun v59 =>
 brB v59 (
 jp (fun (s60 : VT [2, 4, 28, 29, 30]) h n =>
 pc s60 fun v62 s63 =>
 pc s63 fun v64 s65 =>
 pc s65 fun v66 s67 =>
 pc s67 fun v68 s69 =>
 pc s69 fun v70 s71 =>
 evBin2 tbx .add 3 v70 (.i .i64 1) fun v72 =>
 lo48 (v62, v64, v66, v68, v72, ()) h n) fun kk61 =>
 evIa tbx 114 v53 v57 fun v73 =>
 evLoad tbx 162 v73 h fun v74 =>
 evAlloc tbx 162 h n fun v75 h n =>
 evStore tbx 162 v75 v74 h n fun _ h n =>
 evBin2 tbx .gtr 3 v57 (.i .i64 0) fun v76 =>
 jp (fun (v77 : V) h n =>
 jp (fun (v79 : V) h n =>
 jp (fun (v81 : V) h n =>
 evPick v76 v81 (.b false) fun v83 =>
 brB v83 (
 evNc' v51 fun v84 =>
 evFa tbx 166 1 v84 fun v85 =>
 evLoad tbx 164 v85 h fun v86 =>
 evFa tbx 162 0 v75 fun v87 =>
 evLoad tbx 3 v87 h fun v88 =>
 evNc' v51 fun v89 =>
 evFa tbx 166 1 v89 fun v90 =>
 evLoad tbx 164 v90 h fun v91 =>
 evFa tbx 162 0 v75 fun v92 =>
 evLoad tbx 3 v92 h fun v93 =>
 evIa tbx 164 v91 v93 fun v94 =>
 evLoad tbx 149 v94 h fun v95 =>
 evLoad tbx 164 v85 h fun w110 => cond (eqV 6 w110 v86) (
 evLoad tbx 3 v87 h fun w109 => cond (eqV 6 w109 v88) (
 evLoad tbx 164 v90 h fun w108 => cond (eqV 6 w108 v91) (
 evLoad tbx 3 v92 h fun w107 => cond (eqV 6 w107 v93) (
 evLoad tbx 149 v94 h fun w106 => cond (eqV 6 w106 v95) (
 evBuildSl tbx 149 1 [(0, v57)] h n fun v96 h n =>
 evLoad tbx 164 v85 h fun w105 => cond (eqV 6 w105 v86) (
 evLoad tbx 3 v87 h fun w104 => cond (eqV 6 w104 v88) (
 evLoad tbx 164 v90 h fun w103 => cond (eqV 6 w103 v91) (
 evLoad tbx 3 v92 h fun w102 => cond (eqV 6 w102 v93) (
 evLoad tbx 149 v94 h fun w101 => cond (eqV 6 w101 v95) (
 evApp tbx 149 149 v95 v96 h n fun v97 h n =>
 evIa tbx 164 v86 v88 fun v98 =>
 evLoad tbx 164 v85 h fun w100 => cond (eqV 6 w100 v86) (
 evLoad tbx 3 v87 h fun w99 => cond (eqV 6 w99 v88) (
 evStore tbx 149 v98 v97 h n fun _ h n =>
 kk61 (v49, v51, v53, v55, v57, ()) h n) none) none) none) none) none) none) none) none) none) none) none) none) (
 kk61 (v49, v51, v53, v55, v57, ()) h n)) fun kk82 =>
 gdB v76 true ((evBin2 tbx .neq 9 v79 (.s 0 0) fun v => kk82 v h n)) (kk82 (.tp []) h n)) fun kk80 =>
 gdB v76 true ((evLoad tbx 9 v77 h fun v => kk80 v h n)) (kk80 (.tp []) h n)) fun kk78 =>
 gdB v76 true ((evFa tbx 162 1 v75 fun v => kk78 v h n)) (kk78 (.tp []) h n)) (
 kk14 (v49, v51, ()) h n)) fu (v6, v11, v4, v12, (.i .i64 0), ()) h n) fun kk3 =>
 cf 97 [a0] h n fun v111 h n =>
 evUn .not v111 fun v112 =>
 brB v112 (
 evBuild tbx 32 [] fun v113 =>
 evStore tbx 32 v1 v113 h n fun _ h n =>
 evLoad tbx 32 v1 h fun v114 =>
 k (.tp [v114, (.i .i64 6)]) h n) (
 evIa tbx 114 a0 (.i .i64 0) fun v115 =>
 evFa tbx 162 1 v115 fun v116 =>
 evLoad tbx 9 v116 h fun v117 =>
 evBin2 tbx .neq 9 v117 (.s 7 31651020243559284) fun v118 =>
 brB v118 (
 evBuild tbx 32 [] fun v119 =>
 evStore tbx 32 v1 v119 h n fun _ h n =>
 evLoad tbx 32 v1 h fun v120 =>
 k (.tp [v120, (.i .i64 8)]) h n) (
 kk3 (a0, v1, ()) h n))
noncomputable def e63 : FE := ⟨Tryz.f63, bd Tryz.f63, [0], [2, 3], (.q .z (.q (.b [0, 2] (.q .z (.c (.q .z .z) (.q .z (.c (.q .z .z) .z))))) (.q .z (.q (.q .z (.b [2, 4] (.l [2, 4, 28, 29, 30] (.q .z (.q (.c .z .z) (.q (.b [2, 4, 28, 29, 30] (.q .z (.q .z (.c .z .z)))) .z)))))) (.q .z (.q .z (.q (.q .z (.q .z (.c (.q .z .z) .z))) (.q .z .z))))))))⟩
theorem q63 (fu : Nat) (cf : CF) (a0 : V) (h : H) (n : Id) (k : KV) : evF fu cf e63 [a0] h n k = s63 fu cf a0 h n k := by kernel_rfl
theorem p63 : PfOk Tryz.prog tbx mtab 63 (w1 (s63 fuX)) := pfo e63 Tryz.func63 (by kernel_rfl) (w1_ok (q63 fuX))
noncomputable def s64 (fu : Nat) (cf : CF) (a0 : V) (h : H) (n : Id) (k : KV) : R :=
 evBox a0 h n fun v1 h n =>
 evFa tbx 24 0 v1 fun v2 =>
 evLoad tbx 9 v2 h fun v3 =>
 cf 105 [v3] h n fun v4 h n =>
 jp (fun (v5 : V) h n =>
 jp (fun (v7 : V) h n =>
 jp (fun (v9 : V) h n =>
 evPick v4 v9 (.b false) fun v11 =>
 jp (fun (v12 : V) h n =>
 jp (fun (v14 : V) h n =>
 jp (fun (v16 : V) h n =>
 evPick v11 v16 (.b false) fun v18 =>
 k v18 h n) fun kk17 =>
 gdB v11 true ((cf 106 [v14] h n kk17)) (kk17 (.tp []) h n)) fun kk15 =>
 gdB v11 true ((evLoad tbx 9 v12 h fun v => kk15 v h n)) (kk15 (.tp []) h n)) fun kk13 =>
 gdB v11 true ((evFa tbx 24 2 v1 fun v => kk13 v h n)) (kk13 (.tp []) h n)) fun kk10 =>
 gdB v4 true ((cf 105 [v7] h n kk10)) (kk10 (.tp []) h n)) fun kk8 =>
 gdB v4 true ((evLoad tbx 9 v5 h fun v => kk8 v h n)) (kk8 (.tp []) h n)) fun kk6 =>
 gdB v4 true ((evFa tbx 24 1 v1 fun v => kk6 v h n)) (kk6 (.tp []) h n)
noncomputable def e64 : FE := ⟨Tryz.f64, bd Tryz.f64, [0], [2], (.q .z (.q .z .z))⟩
theorem q64 (fu : Nat) (cf : CF) (a0 : V) (h : H) (n : Id) (k : KV) : evF fu cf e64 [a0] h n k = s64 fu cf a0 h n k := by kernel_rfl
theorem p64 : PfOk Tryz.prog tbx mtab 64 (w1 (s64 fuX)) := pfo e64 Tryz.func64 (by kernel_rfl) (w1_ok (q64 fuX))
noncomputable def s65 (fu : Nat) (cf : CF) (a0 a1 a2 : V) (h : H) (n : Id) (k : KV) : R :=
 evBox a1 h n fun v1 h n =>
 evAlloc tbx 124 h n fun v2 h n =>
 jp (fun (s3 : VT [0, 2, 4, 6]) h n =>
 pc s3 fun v5 s6 =>
 pc s6 fun v7 s8 =>
 pc s8 fun v9 s10 =>
 pc s10 fun v11 s12 =>
 evNc' v5 fun v13 =>
 evFa tbx 122 1 v13 fun v14 =>
 evLoad tbx 120 v14 h fun v15 =>
 evLoad tbx 24 v9 h fun v16 =>
 evLook tbx mtab 120 v15 v16 true h fun v17 =>
 evExt 0 v17 fun v18 =>
 evExt 1 v17 fun v19 =>
 evLoad tbx 120 v14 h fun w161 => cond (eqV 6 w161 v15) (
 evLoad tbx 24 v9 h fun w160 => cond (eqV 6 w160 v16) (
 evLook tbx mtab 120 v15 v16 true h fun w159 => cond (eqV 6 w159 v17) (
 evAlloc tbx 124 h n fun v20 h n =>
 evLoad tbx 120 v14 h fun w158 => cond (eqV 6 w158 v15) (
 evLoad tbx 24 v9 h fun w157 => cond (eqV 6 w157 v16) (
 evLook tbx mtab 120 v15 v16 true h fun w156 => cond (eqV 6 w156 v17) (
 evStore tbx 124 v20 v18 h n fun _ h n =>
 brB v19 (
 evLen tbx 79 v7 fun v21 =>
 evFa tbx 124 1 v20 fun v22 =>
 evLoad tbx 3 v22 h fun v23 =>
 evBin2 tbx .add 3 v21 v23 fun v24 =>
 evBin2 tbx .geq 3 v24 (.i .i64 5) fun v25 =>
 brB v25 (
 evBuild tbx 124 [] fun v26 =>
 evStore tbx 124 v11 v26 h n fun _ h n =>
 evLoad tbx 124 v11 h fun v27 =>
 k (.tp [v27, (.i .i64 7)]) h n) (
 evLoad tbx 124 v20 h fun v28 =>
 evStore tbx 124 v11 v28 h n fun _ h n =>
 evLoad tbx 124 v11 h fun v29 =>
 k (.tp [v29, (.i .i64 0)]) h n)) (
 evLoad tbx 24 v9 h fun v30 =>
 cf 107 [v5, v30] h n fun v31 h n =>
 evExt 0 v31 fun v32 =>
 evExt 1 v31 fun v33 =>
 evAlloc tbx 32 h n fun v34 h n =>
 evStore tbx 32 v34 v32 h n fun _ h n =>
 evBin2 tbx .neq 33 v33 (.i .i64 0) fun v35 =>
 brB v35 (
 evBuild tbx 124 [] fun v36 =>
 evStore tbx 124 v11 v36 h n fun _ h n =>
 evLoad tbx 124 v11 h fun v37 =>
 k (.tp [v37, v33]) h n) (
 evFa tbx 32 6 v34 fun v38 =>
 evLoad tbx 30 v38 h fun v39 =>
 evLoad tbx 24 v9 h fun v40 =>
 alB n fun n' => sliA tbx 79 1 [(0, v40)] fun x mk => 
 (fun (v41 : V) h n =>
 evLoad tbx 30 v38 h fun w155 => cond (eqV 6 w155 v39) (
 evLoad tbx 24 v9 h fun w154 => cond (eqV 6 w154 v40) (
 ckO (vId v41) h fun id x' => sliA tbx 79 1 [(0, v40)] fun x mk => cond (eqO x' x) (cond (eqV 6 (mk id) v41) (
 cf 109 [v7] h n fun v42 h n =>
 evLoad tbx 30 v38 h fun w153 => cond (eqV 6 w153 v39) (
 evLoad tbx 24 v9 h fun w152 => cond (eqV 6 w152 v40) (
 ckO (vId v41) h fun id x' => sliA tbx 79 1 [(0, v40)] fun x mk => cond (eqO x' x) (cond (eqV 6 (mk id) v41) (
 evApp tbx 79 79 v42 v41 h n fun v43 h n =>
 evLoad tbx 30 v38 h fun w151 => cond (eqV 6 w151 v39) (
 cf 108 [v5, v39, v43] h n fun v44 h n =>
 evExt 0 v44 fun v45 =>
 evExt 1 v44 fun v46 =>
 evExt 2 v44 fun v47 =>
 evBin2 tbx .neq 33 v47 (.i .i64 0) fun v48 =>
 brB v48 (
 evBuild tbx 124 [] fun v49 =>
 evStore tbx 124 v11 v49 h n fun _ h n =>
 evLoad tbx 124 v11 h fun v50 =>
 k (.tp [v50, v47]) h n) (
 evFa tbx 32 6 v34 fun v51 =>
 evStore tbx 30 v51 v45 h n fun _ h n =>
 evFa tbx 32 7 v34 fun v52 =>
 evLoad tbx 30 v52 h fun v53 =>
 cf 110 [v53] h n fun v54 h n =>
 evLen tbx 30 v54 fun v55 =>
 jp (fun (s56 : VT [0, 4, 6, 10, 13, 14]) h n =>
 pc s56 fun v58 s59 =>
 pc s59 fun v60 s61 =>
 pc s61 fun v62 s63 =>
 pc s63 fun v64 s65 =>
 pc s65 fun v66 s67 =>
 pc s67 fun v68 s69 =>
 evFa tbx 32 7 v64 fun v70 =>
 evStore tbx 30 v70 v68 h n fun _ h n =>
 evNc' v58 fun v71 =>
 evFa tbx 122 1 v71 fun v72 =>
 evLoad tbx 120 v72 h fun v73 =>
 evLoad tbx 24 v60 h fun v74 =>
 evLoad tbx 32 v64 h fun v75 =>
 evBuild tbx 124 [(0, v75), (1, v66)] fun v76 =>
 evLoad tbx 120 v72 h fun w88 => cond (eqV 6 w88 v73) (
 evLoad tbx 24 v60 h fun w87 => cond (eqV 6 w87 v74) (
 evLoad tbx 32 v64 h fun w86 => cond (eqV 6 w86 v75) (
 evMapUpd mtab 120 v73 v74 v76 h n fun _ h n =>
 evNc' v58 fun v77 =>
 evFa tbx 122 1 v77 fun v78 =>
 evLoad tbx 120 v78 h fun v79 =>
 evLoad tbx 24 v60 h fun v80 =>
 evLook tbx mtab 120 v79 v80 false h fun v81 =>
 evLoad tbx 120 v78 h fun w85 => cond (eqV 6 w85 v79) (
 evLoad tbx 24 v60 h fun w84 => cond (eqV 6 w84 v80) (
 evLook tbx mtab 120 v79 v80 false h fun w83 => cond (eqV 6 w83 v81) (
 evStore tbx 124 v62 v81 h n fun _ h n =>
 evLoad tbx 124 v62 h fun v82 =>
 k (.tp [v82, (.i .i64 0)]) h n) none) none) none) none) none) none) fun kk57 =>
 lpC [0, 4, 6, 10, 13, 14, 76, 77, 78] (fun lo90 s89 h n =>
 pc s89 fun v91 s92 =>
 pc s92 fun v93 s94 =>
 pc s94 fun v95 s96 =>
 pc s96 fun v97 s98 =>
 pc s98 fun v99 s100 =>
 pc s100 fun v101 s102 =>
 pc s102 fun v103 s104 =>
 pc s104 fun v105 s106 =>
 pc s106 fun v107 s108 =>
 evBin2 tbx .lss 3 v107 v105 fun v109 =>
 brB v109 (
 jp (fun (s110 : VT [0, 4, 6, 10, 13, 14, 76, 77, 78]) h n =>
 pc s110 fun v112 s113 =>
 pc s113 fun v114 s115 =>
 pc s115 fun v116 s117 =>
 pc s117 fun v118 s119 =>
 pc s119 fun v120 s121 =>
 pc s121 fun v122 s123 =>
 pc s123 fun v124 s125 =>
 pc s125 fun v126 s127 =>
 pc s127 fun v128 s129 =>
 evBin2 tbx .add 3 v128 (.i .i64 1) fun v130 =>
 lo90 (v112, v114, v116, v118, v120, v122, v124, v126, v130, ()) h n) fun kk111 =>
 evIa tbx 30 v103 v107 fun v131 =>
 evLoad tbx 51 v131 h fun v132 =>
 evAlloc tbx 51 h n fun v133 h n =>
 evStore tbx 51 v133 v132 h n fun _ h n =>
 evLoad tbx 51 v133 h fun v134 =>
 evFa tbx 32 6 v97 fun v135 =>
 evLoad tbx 30 v135 h fun v136 =>
 cf 111 [v134, v136] h n fun v137 h n =>
 evStore tbx 51 v133 v137 h n fun _ h n =>
 evFa tbx 51 2 v133 fun v138 =>
 evLoad tbx 9 v138 h fun v139 =>
 evBin2 tbx .eql 9 v139 (.s 0 0) fun v140 =>
 brB v140 (
 evBuild tbx 124 [] fun v141 =>
 evStore tbx 124 v95 v141 h n fun _ h n =>
 evLoad tbx 124 v95 h fun v142 =>
 k (.tp [v142, (.i .i64 11)]) h n) (
 evFa tbx 51 5 v133 fun v143 =>
 evLoad tbx 9 v143 h fun v144 =>
 evBuildSl tbx 71 2 [(0, v144), (1, (.s 7 27988538522430565))] h n fun v145 h n =>
 cf 42 [v145] h n fun v146 h n =>
 evFa tbx 51 5 v133 fun v147 =>
 evStore tbx 9 v147 v146 h n fun _ h n =>
 evLoad tbx 51 v133 h fun v148 =>
 evBuildSl tbx 30 1 [(0, v148)] h n fun v149 h n =>
 evApp tbx 30 30 v101 v149 h n fun v150 h n =>
 kk111 (v91, v93, v95, v97, v99, v150, v103, v105, v107, ()) h n)) (
 kk57 (v91, v93, v95, v97, v99, v101, ()) h n)) fu (v5, v9, v11, v34, v46, .ns, v54, v55, (.i .i64 0), ()) h n)) none) none) none) none) none) none) none) none) none) (mk n) (hset x n h) n'))) none) none) none) none) none) none) fun kk4 =>
 evLoad tbx 24 v1 h fun v162 =>
 cf 39 [a2, v162] h n fun v163 h n =>
 brB v163 (
 evBuild tbx 124 [] fun v164 =>
 evStore tbx 124 v2 v164 h n fun _ h n =>
 evLoad tbx 124 v2 h fun v165 =>
 k (.tp [v165, (.i .i64 16)]) h n) (
 evLen tbx 79 a2 fun v166 =>
 evBin2 tbx .geq 3 v166 (.i .i64 5) fun v167 =>
 brB v167 (
 evBuild tbx 124 [] fun v168 =>
 evStore tbx 124 v2 v168 h n fun _ h n =>
 evLoad tbx 124 v2 h fun v169 =>
 k (.tp [v169, (.i .i64 7)]) h n) (
 kk4 (a0, a2, v1, v2, ()) h n))
noncomputable def e65 : FE := ⟨Tryz.f65, bd Tryz.f65, [0, 1, 2], [6, 7], (.q .z (.q (.b [0, 2, 4, 6] (.q .z (.c (.q .z .z) (.q .z (.c (.q .z .z) .z))))) (.q (.q .z (.q .z (.c (.q (.q .z (.c (.q .z .z) .z)) (.q .z .z)) .z))) (.q .z (.q (.q .z (.c (.q .z .z) .z)) (.q .z (.q (.q .z (.c (.q .z .z) .z)) (.q .z (.q .z (.q (.q .z (.b [0, 4, 6, 10, 13, 14] (.l [0, 4, 6, 10, 13, 14, 76, 77, 78] (.q .z (.q (.c .z .z) (.q (.b [0, 4, 6, 10, 13, 14, 76, 77, 78] (.q .z (.q .z (.q (.q .z (.c (.q .z .z) .z)) (.q .z .z))))) .z)))))) (.q .z (.q .z (.q .z .z)))))))))))))⟩
theorem q65 (fu : Nat) (cf : CF) (a0 a1 a2 : V) (h : H) (n : Id) (k : KV) : evF fu cf e65 [a0, a1, a2] h n k = s65 fu cf a0 a1 a2 h n k := by kernel_rfl
theorem p65 : PfOk Tryz.prog tbx mtab 65 (w3 (s65 fuX)) := pfo e65 Tryz.func65 (by kernel_rfl) (w3_ok (q65 fuX))
noncomputable def s66 (fu : Nat) (cf : CF) (a0 : V) (h : H) (n : Id) (k : KV) : R :=
 evBin2 tbx .eql 29 a0 .ns fun v1 =>
 brB v1 (
 k .ns h n) (
 evBuildSl tbx 29 0 [] h n fun v2 h n =>
 evApp tbx 29 29 v2 a0 h n fun v3 h n =>
 k v3 h n)
noncomputable def e66 : FE := ⟨Tryz.f66, bd Tryz.f66, [0], [2], (.q .z (.q (.q .z (.c (.q .z .z) .z)) (.q .z .z)))⟩
theorem q66 (fu : Nat) (cf : CF) (a0 : V) (h : H) (n : Id) (k : KV) : evF fu cf e66 [a0] h n k = s66 fu cf a0 h n k := by kernel_rfl
theorem p66 : PfOk Tryz.prog tbx mtab 66 (w1 (s66 fuX)) := pfo e66 Tryz.func66 (by kernel_rfl) (w1_ok (q66 fuX))
noncomputable def s67 (fu : Nat) (cf : CF) (a0 : V) (h : H) (n : Id) (k : KV) : R :=
 cf 112 [a0] h n fun v1 h n =>
 evLen tbx 30 v1 fun v2 =>
 jp (fun (s3 : VT [3]) h n =>
 pc s3 fun v5 s6 =>
 k v5 h n) fun kk4 =>
 lpC [3, 8, 9] (fun lo8 s7 h n =>
 pc s7 fun v9 s10 =>
 pc s10 fun v11 s12 =>
 pc s12 fun v13 s14 =>
 evBin2 tbx .lss 3 v13 v11 fun v15 =>
 brB v15 (
 jp (fun (s16 : VT [3, 8, 9]) h n =>
 pc s16 fun v18 s19 =>
 pc s19 fun v20 s21 =>
 pc s21 fun v22 s23 =>
 evBin2 tbx .add 3 v22 (.i .i64 1) fun v24 =>
 lo8 (v18, v20, v24, ()) h n) fun kk17 =>
 evIa tbx 30 v9 v13 fun v25 =>
 evFa tbx 51 7 v25 fun v26 =>
 evLoad tbx 49 v26 h fun v27 =>
 cf 113 [v27] h n fun v28 h n =>
 evIa tbx 30 v9 v13 fun v29 =>
 evFa tbx 51 7 v29 fun v30 =>
 evStore tbx 49 v30 v28 h n fun _ h n =>
 kk17 (v9, v11, v13, ()) h n) (
 kk4 (v9, ()) h n)) fu (v1, v2, (.i .i64 0), ()) h n
noncomputable def e67 : FE := ⟨Tryz.f67, bd Tryz.f67, [0], [2], (.q .z (.q .z (.q (.q .z (.b [3] (.l [3, 8, 9] (.q .z (.q (.c .z .z) (.q (.b [3, 8, 9] (.q .z .z)) .z)))))) (.q .z .z))))⟩
theorem q67 (fu : Nat) (cf : CF) (a0 : V) (h : H) (n : Id) (k : KV) : evF fu cf e67 [a0] h n k = s67 fu cf a0 h n k := by kernel_rfl
theorem p67 : PfOk Tryz.prog tbx mtab 67 (w1 (s67 fuX)) := pfo e67 Tryz.func67 (by kernel_rfl) (w1_ok (q67 fuX))
noncomputable def s73 (fu : Nat) (cf : CF) (a0 : V) (h : H) (n : Id) (k : KV) : R :=
 evBin2 tbx .geq 5 a0 (.i .u8 97) fun v1 =>
 jp (fun (v2 : V) h n =>
 jp (fun (v4 : V) h n =>
 evPick v1 v4 (.b false) fun v6 =>
 jp (fun (v7 : V) h n =>
 jp (fun (v9 : V) h n =>
 jp (fun (v11 : V) h n =>
 jp (fun (v13 : V) h n =>
 jp (fun (v15 : V) h n =>
 jp (fun (v17 : V) h n =>
 evPick v6 (.b true) v17 fun v19 =>
 jp (fun (v20 : V) h n =>
 jp (fun (v22 : V) h n =>
 evPick v19 (.b true) v22 fun v24 =>
 k v24 h n) fun kk23 =>
 gdB v19 false ((evBin2 tbx .eql 5 v20 (.i .u8 95) fun v => kk23 v h n)) (kk23 (.tp []) h n)) fun kk21 =>
 gdB v19 false (kk21 a0 h n) (kk21 (.tp []) h n)) fun kk18 =>
 gdB v6 false ((evPick v11 v15 (.b false) fun v => kk18 v h n)) (kk18 (.tp []) h n)) fun kk16 =>
 gdB v11 true ((evBin2 tbx .leq 5 v13 (.i .u8 90) fun v => kk16 v h n)) (kk16 (.tp []) h n)) fun kk14 =>
 gdB v11 true (kk14 a0 h n) (kk14 (.tp []) h n)) fun kk12 =>
 gdB v6 false (kk12 v9 h n) (kk12 (.tp []) h n)) fun kk10 =>
 gdB v6 false ((evBin2 tbx .geq 5 v7 (.i .u8 65) fun v => kk10 v h n)) (kk10 (.tp []) h n)) fun kk8 =>
 gdB v6 false (kk8 a0 h n) (kk8 (.tp []) h n)) fun kk5 =>
 gdB v1 true ((evBin2 tbx .leq 5 v2 (.i .u8 122) fun v => kk5 v h n)) (kk5 (.tp []) h n)) fun kk3 =>
 gdB v1 true (kk3 a0 h n) (kk3 (.tp []) h n)
noncomputable def e73 : FE := ⟨Tryz.f73, bd Tryz.f73, [0], [2], (.q .z (.q .z .z))⟩
theorem q73 (fu : Nat) (cf : CF) (a0 : V) (h : H) (n : Id) (k : KV) : evF fu cf e73 [a0] h n k = s73 fu cf a0 h n k := by kernel_rfl
theorem p73 : PfOk Tryz.prog tbx mtab 73 (w1 (s73 fuX)) := pfo e73 Tryz.func73 (by kernel_rfl) (w1_ok (q73 fuX))
noncomputable def s74 (fu : Nat) (cf : CF) (a0 : V) (h : H) (n : Id) (k : KV) : R :=
 cf 73 [a0] h n fun v1 h n =>
 jp (fun (v2 : V) h n =>
 jp (fun (v4 : V) h n =>
 evPick v1 (.b true) v4 fun v6 =>
 jp (fun (v7 : V) h n =>
 jp (fun (v9 : V) h n =>
 evPick v6 (.b true) v9 fun v11 =>
 jp (fun (v12 : V) h n =>
 jp (fun (v14 : V) h n =>
 evPick v11 (.b true) v14 fun v16 =>
 jp (fun (v17 : V) h n =>
 jp (fun (v19 : V) h n =>
 evPick v16 (.b true) v19 fun v21 =>
 k v21 h n) fun kk20 =>
 gdB v16 false ((evBin2 tbx .eql 5 v17 (.i .u8 58) fun v => kk20 v h n)) (kk20 (.tp []) h n)) fun kk18 =>
 gdB v16 false (kk18 a0 h n) (kk18 (.tp []) h n)) fun kk15 =>
 gdB v11 false ((evBin2 tbx .eql 5 v12 (.i .u8 46) fun v => kk15 v h n)) (kk15 (.tp []) h n)) fun kk13 =>
 gdB v11 false (kk13 a0 h n) (kk13 (.tp []) h n)) fun kk10 =>
 gdB v6 false ((evBin2 tbx .eql 5 v7 (.i .u8 45) fun v => kk10 v h n)) (kk10 (.tp []) h n)) fun kk8 =>
 gdB v6 false (kk8 a0 h n) (kk8 (.tp []) h n)) fun kk5 =>
 gdB v1 false ((cf 123 [v2] h n kk5)) (kk5 (.tp []) h n)) fun kk3 =>
 gdB v1 false (kk3 a0 h n) (kk3 (.tp []) h n)
noncomputable def e74 : FE := ⟨Tryz.f74, bd Tryz.f74, [0], [2], (.q .z (.q .z .z))⟩
theorem q74 (fu : Nat) (cf : CF) (a0 : V) (h : H) (n : Id) (k : KV) : evF fu cf e74 [a0] h n k = s74 fu cf a0 h n k := by kernel_rfl
theorem p74 : PfOk Tryz.prog tbx mtab 74 (w1 (s74 fuX)) := pfo e74 Tryz.func74 (by kernel_rfl) (w1_ok (q74 fuX))
noncomputable def s75 (fu : Nat) (cf : CF) (a0 : V) (h : H) (n : Id) (k : KV) : R :=
 cf 124 [a0] h n fun v1 h n =>
 jp (fun (v2 : V) h n =>
 jp (fun (v4 : V) h n =>
 evPick v1 (.b true) v4 fun v6 =>
 k v6 h n) fun kk5 =>
 gdB v1 false ((evBin2 tbx .gtr 5 v2 (.i .u8 32) fun v => kk5 v h n)) (kk5 (.tp []) h n)) fun kk3 =>
 gdB v1 false (kk3 a0 h n) (kk3 (.tp []) h n)
noncomputable def e75 : FE := ⟨Tryz.f75, bd Tryz.f75, [0], [2], (.q .z (.q .z .z))⟩
theorem q75 (fu : Nat) (cf : CF) (a0 : V) (h : H) (n : Id) (k : KV) : evF fu cf e75 [a0] h n k = s75 fu cf a0 h n k := by kernel_rfl
theorem p75 : PfOk Tryz.prog tbx mtab 75 (w1 (s75 fuX)) := pfo e75 Tryz.func75 (by kernel_rfl) (w1_ok (q75 fuX))
noncomputable def s76 (fu : Nat) (cf : CF) (a0 : V) (h : H) (n : Id) (k : KV) : R :=
 jp (fun (s1 : VT [0]) h n =>
 pc s1 fun v3 s4 =>
 jp (fun (s5 : VT [0]) h n =>
 pc s5 fun v7 s8 =>
 k v7 h n) fun kk6 =>
 lpC [0] (fun lo10 s9 h n =>
 pc s9 fun v11 s12 =>
 evLen tbx 9 v11 fun v13 =>
 evBin2 tbx .gtr 3 v13 (.i .i64 0) fun v14 =>
 jp (fun (v15 : V) h n =>
 jp (fun (v17 : V) h n =>
 jp (fun (v19 : V) h n =>
 jp (fun (v21 : V) h n =>
 jp (fun (v23 : V) h n =>
 jp (fun (v25 : V) h n =>
 evPick v14 v25 (.b false) fun v27 =>
 brB v27 (
 jp (fun (s28 : VT [0]) h n =>
 pc s28 fun v30 s31 =>
 lo10 (v30, ()) h n) fun kk29 =>
 evLen tbx 9 v11 fun v32 =>
 evBin2 tbx .sub 3 v32 (.i .i64 1) fun v33 =>
 evSlc tbx 9 v11 none (some v33) fun v34 =>
 kk29 (v34, ()) h n) (
 kk6 (v11, ()) h n)) fun kk26 =>
 gdB v14 true ((cf 124 [v23] h n kk26)) (kk26 (.tp []) h n)) fun kk24 =>
 gdB v14 true ((evIx tbx 9 v15 v21 fun v => kk24 v h n)) (kk24 (.tp []) h n)) fun kk22 =>
 gdB v14 true ((evBin2 tbx .sub 3 v19 (.i .i64 1) fun v => kk22 v h n)) (kk22 (.tp []) h n)) fun kk20 =>
 gdB v14 true ((evLen tbx 9 v17 fun v => kk20 v h n)) (kk20 (.tp []) h n)) fun kk18 =>
 gdB v14 true (kk18 v11 h n) (kk18 (.tp []) h n)) fun kk16 =>
 gdB v14 true (kk16 v11 h n) (kk16 (.tp []) h n)) fu (v3, ()) h n) fun kk2 =>
 lpC [0] (fun lo36 s35 h n =>
 pc s35 fun v37 s38 =>
 evLen tbx 9 v37 fun v39 =>
 evBin2 tbx .gtr 3 v39 (.i .i64 0) fun v40 =>
 jp (fun (v41 : V) h n =>
 jp (fun (v43 : V) h n =>
 jp (fun (v45 : V) h n =>
 evPick v40 v45 (.b false) fun v47 =>
 brB v47 (
 jp (fun (s48 : VT [0]) h n =>
 pc s48 fun v50 s51 =>
 lo36 (v50, ()) h n) fun kk49 =>
 evSlc tbx 9 v37 (some (.i .i64 1)) none fun v52 =>
 kk49 (v52, ()) h n) (
 kk2 (v37, ()) h n)) fun kk46 =>
 gdB v40 true ((cf 124 [v43] h n kk46)) (kk46 (.tp []) h n)) fun kk44 =>
 gdB v40 true ((evIx tbx 9 v41 (.i .i64 0) fun v => kk44 v h n)) (kk44 (.tp []) h n)) fun kk42 =>
 gdB v40 true (kk42 v37 h n) (kk42 (.tp []) h n)) fu (a0, ()) h n
noncomputable def e76 : FE := ⟨Tryz.f76, bd Tryz.f76, [0], [2], (.q .z (.q (.b [0] (.l [0] (.q (.q .z (.c .z .z)) (.b [0] .z)))) (.q (.b [0] (.l [0] (.q (.q .z (.c .z .z)) (.b [0] .z)))) (.q .z .z))))⟩
theorem q76 (fu : Nat) (cf : CF) (a0 : V) (h : H) (n : Id) (k : KV) : evF fu cf e76 [a0] h n k = s76 fu cf a0 h n k := by kernel_rfl
theorem p76 : PfOk Tryz.prog tbx mtab 76 (w1 (s76 fuX)) := pfo e76 Tryz.func76 (by kernel_rfl) (w1_ok (q76 fuX))
noncomputable def s77 (fu : Nat) (cf : CF) (a0 a1 a2 a3 : V) (h : H) (n : Id) (k : KV) : R :=
 evBin2 tbx .add 3 a1 (.i .i64 1) fun v1 =>
 jp (fun (s2 : VT []) h n =>
 k (.tp []) h n) fun kk3 =>
 lpC [0, 1, 2, 3, 8] (fun lo5 s4 h n =>
 pc s4 fun v6 s7 =>
 pc s7 fun v8 s9 =>
 pc s9 fun v10 s11 =>
 pc s11 fun v12 s13 =>
 pc s13 fun v14 s15 =>
 evBin2 tbx .lss 3 v14 v10 fun v16 =>
 brB v16 (
 jp (fun (s17 : VT [0, 1, 2, 3, 8]) h n =>
 pc s17 fun v19 s20 =>
 pc s20 fun v21 s22 =>
 pc s22 fun v23 s24 =>
 pc s24 fun v25 s26 =>
 pc s26 fun v27 s28 =>
 evBin2 tbx .add 3 v27 (.i .i64 1) fun v29 =>
 lo5 (v19, v21, v23, v25, v29, ()) h n) fun kk18 =>
 jp (fun (s30 : VT [0, 1, 2, 3, 8]) h n =>
 pc s30 fun v32 s33 =>
 pc s33 fun v34 s35 =>
 pc s35 fun v36 s37 =>
 pc s37 fun v38 s39 =>
 pc s39 fun v40 s41 =>
 kk18 (v32, v34, v36, v38, v40, ()) h n) fun kk31 =>
 lpC [0, 1, 2, 3, 8, 9] (fun lo43 s42 h n =>
 pc s42 fun v44 s45 =>
 pc s45 fun v46 s47 =>
 pc s47 fun v48 s49 =>
 pc s49 fun v50 s51 =>
 pc s51 fun v52 s53 =>
 pc s53 fun v54 s55 =>
 evBin2 tbx .gtr 3 v54 v46 fun v56 =>
 jp (fun (v57 : V) h n =>
 jp (fun (v59 : V) h n =>
 jp (fun (v61 : V) h n =>
 jp (fun (v63 : V) h n =>
 jp (fun (v65 : V) h n =>
 jp (fun (v67 : V) h n =>
 jp (fun (v69 : V) h n =>
 jp (fun (v71 : V) h n =>
 jp (fun (v73 : V) h n =>
 jp (fun (v75 : V) h n =>
 thenR (wsB (wV v56 true) (evLoad tbx 24 v63 h fun w77 => cond (eqV 6 w77 v65) (okR) none) (cond (eqV 2 v65 (.tp [])) okR none)) (
 thenR (wsB (wV v56 true) (evLoad tbx 24 v73 h fun w78 => cond (eqV 6 w78 v75) (okR) none) (cond (eqV 2 v75 (.tp [])) okR none)) (
 jp (fun (v79 : V) h n =>
 jp (fun (v81 : V) h n =>
 evPick v56 v81 (.b false) fun v83 =>
 brB v83 (
 jp (fun (s84 : VT [0, 1, 2, 3, 8, 9]) h n =>
 pc s84 fun v86 s87 =>
 pc s87 fun v88 s89 =>
 pc s89 fun v90 s91 =>
 pc s91 fun v92 s93 =>
 pc s93 fun v94 s95 =>
 pc s95 fun v96 s97 =>
 evBin2 tbx .sub 3 v96 (.i .i64 1) fun v98 =>
 lo43 (v86, v88, v90, v92, v94, v98, ()) h n) fun kk85 =>
 evBin2 tbx .sub 3 v54 (.i .i64 1) fun v99 =>
 evBin2 tbx .sub 3 v54 (.i .i64 1) fun v100 =>
 evIa tbx 79 v44 v100 fun v101 =>
 evLoad tbx 24 v101 h fun v102 =>
 evIa tbx 79 v44 v54 fun v103 =>
 evLoad tbx 24 v103 h fun v104 =>
 evIa tbx 79 v44 v54 fun v105 =>
 evLoad tbx 24 v101 h fun w108 => cond (eqV 6 w108 v102) (
 evLoad tbx 24 v103 h fun w107 => cond (eqV 6 w107 v104) (
 evStore tbx 24 v105 v102 h n fun _ h n =>
 evIa tbx 79 v44 v99 fun v106 =>
 evStore tbx 24 v106 v104 h n fun _ h n =>
 kk85 (v44, v46, v48, v50, v52, v54, ()) h n) none) none) (
 kk31 (v44, v46, v48, v50, v52, ()) h n)) fun kk82 =>
 wsB (wV v56 true) ((evBin2 tbx .lss 3 v79 (.i .i64 0) fun v => kk82 v h n)) (kk82 (.tp []) h n)) fun kk80 =>
 wsB (wV v56 true) ((evCall cf v57 [v65, v75] h n kk80)) (kk80 (.tp []) h n)))) fun kk76 =>
 wsB (wV v56 true) ((evLoad tbx 24 v73 h fun v => kk76 v h n)) (kk76 (.tp []) h n)) fun kk74 =>
 wsB (wV v56 true) ((evIa tbx 79 v67 v71 fun v => kk74 v h n)) (kk74 (.tp []) h n)) fun kk72 =>
 wsB (wV v56 true) ((evBin2 tbx .sub 3 v69 (.i .i64 1) fun v => kk72 v h n)) (kk72 (.tp []) h n)) fun kk70 =>
 wsB (wV v56 true) (kk70 v54 h n) (kk70 (.tp []) h n)) fun kk68 =>
 wsB (wV v56 true) (kk68 v44 h n) (kk68 (.tp []) h n)) fun kk66 =>
 wsB (wV v56 true) ((evLoad tbx 24 v63 h fun v => kk66 v h n)) (kk66 (.tp []) h n)) fun kk64 =>
 wsB (wV v56 true) ((evIa tbx 79 v59 v61 fun v => kk64 v h n)) (kk64 (.tp []) h n)) fun kk62 =>
 wsB (wV v56 true) (kk62 v54 h n) (kk62 (.tp []) h n)) fun kk60 =>
 wsB (wV v56 true) (kk60 v44 h n) (kk60 (.tp []) h n)) fun kk58 =>
 wsB (wV v56 true) (kk58 v50 h n) (kk58 (.tp []) h n)) fu (v6, v8, v10, v12, v14, v14, ()) h n) (
 kk3 (()) h n)) fu (a0, a1, a2, a3, v1, ()) h n
noncomputable def e77 : FE := ⟨Tryz.f77, bd Tryz.f77, [0, 1, 2, 3], [], (.q .z (.b [] (.l [0, 1, 2, 3, 8] (.q (.q .z (.c .z .z)) (.q (.b [0, 1, 2, 3, 8] (.q .z (.b [0, 1, 2, 3, 8] (.l [0, 1, 2, 3, 8, 9] (.q (.q .z (.c .z .z)) (.q (.b [0, 1, 2, 3, 8, 9] .z) .z)))))) .z)))))⟩
theorem q77 (fu : Nat) (cf : CF) (a0 a1 a2 a3 : V) (h : H) (n : Id) (k : KV) : evF fu cf e77 [a0, a1, a2, a3] h n k = s77 fu cf a0 a1 a2 a3 h n k := by kernel_rfl
theorem p77 : PfOk Tryz.prog tbx mtab 77 (w4 (s77 fuX)) := pfo e77 Tryz.func77 (by kernel_rfl) (w4_ok (q77 fuX))
noncomputable def s80 (fu : Nat) (cf : CF) (a0 a1 a2 a3 : V) (h : H) (n : Id) (k : KV) : R :=
 evBin2 tbx .sub 3 a2 a1 fun v1 =>
 evAlloc tbx 3 h n fun v2 h n =>
 evBin2 tbx .quo 3 v1 (.i .i64 4) fun v3 =>
 evBin2 tbx .mul 3 v3 (.i .i64 1) fun v4 =>
 evBin2 tbx .add 3 a1 v4 fun v5 =>
 evBin2 tbx .quo 3 v1 (.i .i64 4) fun v6 =>
 evBin2 tbx .mul 3 v6 (.i .i64 2) fun v7 =>
 evBin2 tbx .add 3 a1 v7 fun v8 =>
 evBin2 tbx .quo 3 v1 (.i .i64 4) fun v9 =>
 evBin2 tbx .mul 3 v9 (.i .i64 3) fun v10 =>
 evBin2 tbx .add 3 a1 v10 fun v11 =>
 jp (fun (s12 : VT [11, 13]) h n =>
 pc s12 fun v14 s15 =>
 pc s15 fun v16 s17 =>
 evLoad tbx 3 v14 h fun v18 =>
 jp (fun (s19 : VT [8, 9]) h n =>
 pc s19 fun v21 s22 =>
 pc s22 fun v23 s24 =>
 k (.tp [v21, v23]) h n) fun kk20 =>
 evBin2 tbx .eql 3 v18 (.i .i64 0) fun v25 =>
 brB v25 (
 k (.tp [v16, (.i .i64 1)]) h n) (
 evBin2 tbx .eql 3 v18 (.i .i64 12) fun v26 =>
 brB v26 (
 k (.tp [v16, (.i .i64 2)]) h n) (
 k (.tp [v16, (.i .i64 0)]) h n))) fun kk13 =>
 evBin2 tbx .geq 3 v1 (.i .i64 8) fun v27 =>
 brB v27 (
 jp (fun (s28 : VT [0, 3, 11, 12, 13, 14]) h n =>
 pc s28 fun v30 s31 =>
 pc s31 fun v32 s33 =>
 pc s33 fun v34 s35 =>
 pc s35 fun v36 s37 =>
 pc s37 fun v38 s39 =>
 pc s39 fun v40 s41 =>
 cf 129 [v30, v36, v38, v40, v34, v32] h n fun v42 h n =>
 kk13 (v34, v42, ()) h n) fun kk29 =>
 evBin2 tbx .geq 3 v1 (.i .i64 50) fun v43 =>
 brB v43 (
 cf 128 [a0, v5, v2, a3] h n fun v44 h n =>
 cf 128 [a0, v8, v2, a3] h n fun v45 h n =>
 cf 128 [a0, v11, v2, a3] h n fun v46 h n =>
 kk29 (a0, a3, v2, v44, v45, v46, ()) h n) (
 kk29 (a0, a3, v2, v5, v8, v11, ()) h n)) (
 kk13 (v2, v8, ()) h n)
noncomputable def e80 : FE := ⟨Tryz.f80, bd Tryz.f80, [0, 1, 2, 3], [8, 9], (.q .z (.q .z (.q .z (.q .z (.q .z (.q .z (.s [11, 13] (.q .z (.c (.s [0, 3, 11, 12, 13, 14] (.q .z (.c (.q .z (.q .z .z)) .z)) .z) .z)) (.q .z (.b [8, 9] (.q .z (.c (.q .z .z) (.q .z (.c (.q .z .z) (.q .z .z))))))))))))))⟩
theorem q80 (fu : Nat) (cf : CF) (a0 a1 a2 a3 : V) (h : H) (n : Id) (k : KV) : evF fu cf e80 [a0, a1, a2, a3] h n k = s80 fu cf a0 a1 a2 a3 h n k := by kernel_rfl
theorem p80 : PfOk Tryz.prog tbx mtab 80 (w4 (s80 fuX)) := pfo e80 Tryz.func80 (by kernel_rfl) (w4_ok (q80 fuX))
noncomputable def s82 (fu : Nat) (cf : CF) (a0 a1 a2 a3 : V) (h : H) (n : Id) (k : KV) : R :=
 evBin2 tbx .add 3 a1 (.i .i64 1) fun v1 =>
 jp (fun (s2 : VT []) h n =>
 k (.b false) h n) fun kk3 =>
 lpC [0, 1, 2, 3, 9, 10] (fun lo5 s4 h n =>
 pc s4 fun v6 s7 =>
 pc s7 fun v8 s9 =>
 pc s9 fun v10 s11 =>
 pc s11 fun v12 s13 =>
 pc s13 fun v14 s15 =>
 pc s15 fun v16 s17 =>
 evBin2 tbx .lss 3 v16 (.i .i64 5) fun v18 =>
 brB v18 (
 jp (fun (s19 : VT [0, 1, 2, 3, 9, 10]) h n =>
 pc s19 fun v21 s22 =>
 pc s22 fun v23 s24 =>
 pc s24 fun v25 s26 =>
 pc s26 fun v27 s28 =>
 pc s28 fun v29 s30 =>
 pc s30 fun v31 s32 =>
 evBin2 tbx .add 3 v31 (.i .i64 1) fun v33 =>
 lo5 (v21, v23, v25, v27, v29, v33, ()) h n) fun kk20 =>
 jp (fun (s34 : VT [0, 1, 2, 3, 9, 10]) h n =>
 pc s34 fun v36 s37 =>
 pc s37 fun v38 s39 =>
 pc s39 fun v40 s41 =>
 pc s41 fun v42 s43 =>
 pc s43 fun v44 s45 =>
 pc s45 fun v46 s47 =>
 evBin2 tbx .eql 3 v44 v40 fun v48 =>
 brB v48 (
 k (.b true) h n) (
 evBin2 tbx .sub 3 v40 v38 fun v49 =>
 evBin2 tbx .lss 3 v49 (.i .i64 50) fun v50 =>
 brB v50 (
 k (.b false) h n) (
 evBin2 tbx .sub 3 v44 (.i .i64 1) fun v51 =>
 evBin2 tbx .sub 3 v44 (.i .i64 1) fun v52 =>
 evIa tbx 79 v36 v52 fun v53 =>
 evLoad tbx 24 v53 h fun v54 =>
 evIa tbx 79 v36 v44 fun v55 =>
 evLoad tbx 24 v55 h fun v56 =>
 evIa tbx 79 v36 v44 fun v57 =>
 evLoad tbx 24 v53 h fun w216 => cond (eqV 6 w216 v54) (
 evLoad tbx 24 v55 h fun w215 => cond (eqV 6 w215 v56) (
 evStore tbx 24 v57 v54 h n fun _ h n =>
 evIa tbx 79 v36 v51 fun v58 =>
 evStore tbx 24 v58 v56 h n fun _ h n =>
 jp (fun (s59 : VT [0, 1, 2, 3, 9, 10]) h n =>
 pc s59 fun v61 s62 =>
 pc s62 fun v63 s64 =>
 pc s64 fun v65 s66 =>
 pc s66 fun v67 s68 =>
 pc s68 fun v69 s70 =>
 pc s70 fun v71 s72 =>
 evBin2 tbx .sub 3 v65 v69 fun v73 =>
 evBin2 tbx .geq 3 v73 (.i .i64 2) fun v74 =>
 brB v74 (
 evBin2 tbx .add 3 v69 (.i .i64 1) fun v75 =>
 jp (fun (s76 : VT [0, 1, 2, 3, 9, 10]) h n =>
 pc s76 fun v78 s79 =>
 pc s79 fun v80 s81 =>
 pc s81 fun v82 s83 =>
 pc s83 fun v84 s85 =>
 pc s85 fun v86 s87 =>
 pc s87 fun v88 s89 =>
 kk20 (v78, v80, v82, v84, v86, v88, ()) h n) fun kk77 =>
 lpC [0, 1, 2, 3, 9, 10, 12] (fun lo91 s90 h n =>
 pc s90 fun v92 s93 =>
 pc s93 fun v94 s95 =>
 pc s95 fun v96 s97 =>
 pc s97 fun v98 s99 =>
 pc s99 fun v100 s101 =>
 pc s101 fun v102 s103 =>
 pc s103 fun v104 s105 =>
 evBin2 tbx .lss 3 v104 v96 fun v106 =>
 brB v106 (
 jp (fun (s107 : VT [0, 1, 2, 3, 9, 10, 12]) h n =>
 pc s107 fun v109 s110 =>
 pc s110 fun v111 s112 =>
 pc s112 fun v113 s114 =>
 pc s114 fun v115 s116 =>
 pc s116 fun v117 s118 =>
 pc s118 fun v119 s120 =>
 pc s120 fun v121 s122 =>
 evBin2 tbx .add 3 v121 (.i .i64 1) fun v123 =>
 lo91 (v109, v111, v113, v115, v117, v119, v123, ()) h n) fun kk108 =>
 evIa tbx 79 v92 v104 fun v124 =>
 evLoad tbx 24 v124 h fun v125 =>
 evBin2 tbx .sub 3 v104 (.i .i64 1) fun v126 =>
 evIa tbx 79 v92 v126 fun v127 =>
 evLoad tbx 24 v127 h fun v128 =>
 evLoad tbx 24 v124 h fun w143 => cond (eqV 6 w143 v125) (
 evLoad tbx 24 v127 h fun w142 => cond (eqV 6 w142 v128) (
 evCall cf v98 [v125, v128] h n fun v129 h n =>
 evBin2 tbx .lss 3 v129 (.i .i64 0) fun v130 =>
 evUn .not v130 fun v131 =>
 brB v131 (
 kk77 (v92, v94, v96, v98, v100, v102, ()) h n) (
 evBin2 tbx .sub 3 v104 (.i .i64 1) fun v132 =>
 evBin2 tbx .sub 3 v104 (.i .i64 1) fun v133 =>
 evIa tbx 79 v92 v133 fun v134 =>
 evLoad tbx 24 v134 h fun v135 =>
 evIa tbx 79 v92 v104 fun v136 =>
 evLoad tbx 24 v136 h fun v137 =>
 evIa tbx 79 v92 v104 fun v138 =>
 evLoad tbx 24 v134 h fun w141 => cond (eqV 6 w141 v135) (
 evLoad tbx 24 v136 h fun w140 => cond (eqV 6 w140 v137) (
 evStore tbx 24 v138 v135 h n fun _ h n =>
 evIa tbx 79 v92 v132 fun v139 =>
 evStore tbx 24 v139 v137 h n fun _ h n =>
 kk108 (v92, v94, v96, v98, v100, v102, v104, ()) h n) none) none)) none) none) (
 kk77 (v92, v94, v96, v98, v100, v102, ()) h n)) fu (v61, v63, v65, v67, v69, v71, v75, ()) h n) (
 kk20 (v61, v63, v65, v67, v69, v71, ()) h n)) fun kk60 =>
 evBin2 tbx .sub 3 v44 v38 fun v144 =>
 evBin2 tbx .geq 3 v144 (.i .i64 2) fun v145 =>
 brB v145 (
 evBin2 tbx .sub 3 v44 (.i .i64 1) fun v146 =>
 jp (fun (s147 : VT [0, 1, 2, 3, 9, 10]) h n =>
 pc s147 fun v149 s150 =>
 pc s150 fun v151 s152 =>
 pc s152 fun v153 s154 =>
 pc s154 fun v155 s156 =>
 pc s156 fun v157 s158 =>
 pc s158 fun v159 s160 =>
 kk60 (v149, v151, v153, v155, v157, v159, ()) h n) fun kk148 =>
 lpC [0, 1, 2, 3, 9, 10, 11] (fun lo162 s161 h n =>
 pc s161 fun v163 s164 =>
 pc s164 fun v165 s166 =>
 pc s166 fun v167 s168 =>
 pc s168 fun v169 s170 =>
 pc s170 fun v171 s172 =>
 pc s172 fun v173 s174 =>
 pc s174 fun v175 s176 =>
 evBin2 tbx .geq 3 v175 (.i .i64 1) fun v177 =>
 brB v177 (
 jp (fun (s178 : VT [0, 1, 2, 3, 9, 10, 11]) h n =>
 pc s178 fun v180 s181 =>
 pc s181 fun v182 s183 =>
 pc s183 fun v184 s185 =>
 pc s185 fun v186 s187 =>
 pc s187 fun v188 s189 =>
 pc s189 fun v190 s191 =>
 pc s191 fun v192 s193 =>
 evBin2 tbx .sub 3 v192 (.i .i64 1) fun v194 =>
 lo162 (v180, v182, v184, v186, v188, v190, v194, ()) h n) fun kk179 =>
 evIa tbx 79 v163 v175 fun v195 =>
 evLoad tbx 24 v195 h fun v196 =>
 evBin2 tbx .sub 3 v175 (.i .i64 1) fun v197 =>
 evIa tbx 79 v163 v197 fun v198 =>
 evLoad tbx 24 v198 h fun v199 =>
 evLoad tbx 24 v195 h fun w214 => cond (eqV 6 w214 v196) (
 evLoad tbx 24 v198 h fun w213 => cond (eqV 6 w213 v199) (
 evCall cf v169 [v196, v199] h n fun v200 h n =>
 evBin2 tbx .lss 3 v200 (.i .i64 0) fun v201 =>
 evUn .not v201 fun v202 =>
 brB v202 (
 kk148 (v163, v165, v167, v169, v171, v173, ()) h n) (
 evBin2 tbx .sub 3 v175 (.i .i64 1) fun v203 =>
 evBin2 tbx .sub 3 v175 (.i .i64 1) fun v204 =>
 evIa tbx 79 v163 v204 fun v205 =>
 evLoad tbx 24 v205 h fun v206 =>
 evIa tbx 79 v163 v175 fun v207 =>
 evLoad tbx 24 v207 h fun v208 =>
 evIa tbx 79 v163 v175 fun v209 =>
 evLoad tbx 24 v205 h fun w212 => cond (eqV 6 w212 v206) (
 evLoad tbx 24 v207 h fun w211 => cond (eqV 6 w211 v208) (
 evStore tbx 24 v209 v206 h n fun _ h n =>
 evIa tbx 79 v163 v203 fun v210 =>
 evStore tbx 24 v210 v208 h n fun _ h n =>
 kk179 (v163, v165, v167, v169, v171, v173, v175, ()) h n) none) none)) none) none) (
 kk148 (v163, v165, v167, v169, v171, v173, ()) h n)) fu (v36, v38, v40, v42, v44, v46, v146, ()) h n) (
 kk60 (v36, v38, v40, v42, v44, v46, ()) h n)) none) none))) fun kk35 =>
 lpC [0, 1, 2, 3, 9, 10] (fun lo218 s217 h n =>
 pc s217 fun v219 s220 =>
 pc s220 fun v221 s222 =>
 pc s222 fun v223 s224 =>
 pc s224 fun v225 s226 =>
 pc s226 fun v227 s228 =>
 pc s228 fun v229 s230 =>
 evBin2 tbx .lss 3 v227 v223 fun v231 =>
 jp (fun (v232 : V) h n =>
 jp (fun (v234 : V) h n =>
 jp (fun (v236 : V) h n =>
 jp (fun (v238 : V) h n =>
 jp (fun (v240 : V) h n =>
 jp (fun (v242 : V) h n =>
 jp (fun (v244 : V) h n =>
 jp (fun (v246 : V) h n =>
 jp (fun (v248 : V) h n =>
 jp (fun (v250 : V) h n =>
 thenR (wsB (wV v231 true) (evLoad tbx 24 v238 h fun w252 => cond (eqV 6 w252 v240) (okR) none) (cond (eqV 2 v240 (.tp [])) okR none)) (
 thenR (wsB (wV v231 true) (evLoad tbx 24 v248 h fun w253 => cond (eqV 6 w253 v250) (okR) none) (cond (eqV 2 v250 (.tp [])) okR none)) (
 jp (fun (v254 : V) h n =>
 jp (fun (v256 : V) h n =>
 jp (fun (v258 : V) h n =>
 evPick v231 v258 (.b false) fun v260 =>
 brB v260 (
 jp (fun (s261 : VT [0, 1, 2, 3, 9, 10]) h n =>
 pc s261 fun v263 s264 =>
 pc s264 fun v265 s266 =>
 pc s266 fun v267 s268 =>
 pc s268 fun v269 s270 =>
 pc s270 fun v271 s272 =>
 pc s272 fun v273 s274 =>
 lo218 (v263, v265, v267, v269, v271, v273, ()) h n) fun kk262 =>
 evBin2 tbx .add 3 v227 (.i .i64 1) fun v275 =>
 kk262 (v219, v221, v223, v225, v275, v229, ()) h n) (
 kk35 (v219, v221, v223, v225, v227, v229, ()) h n)) fun kk259 =>
 wsB (wV v231 true) ((evUn .not v256 fun v => kk259 v h n)) (kk259 (.tp []) h n)) fun kk257 =>
 wsB (wV v231 true) ((evBin2 tbx .lss 3 v254 (.i .i64 0) fun v => kk257 v h n)) (kk257 (.tp []) h n)) fun kk255 =>
 wsB (wV v231 true) ((evCall cf v232 [v240, v250] h n kk255)) (kk255 (.tp []) h n)))) fun kk251 =>
 wsB (wV v231 true) ((evLoad tbx 24 v248 h fun v => kk251 v h n)) (kk251 (.tp []) h n)) fun kk249 =>
 wsB (wV v231 true) ((evIa tbx 79 v242 v246 fun v => kk249 v h n)) (kk249 (.tp []) h n)) fun kk247 =>
 wsB (wV v231 true) ((evBin2 tbx .sub 3 v244 (.i .i64 1) fun v => kk247 v h n)) (kk247 (.tp []) h n)) fun kk245 =>
 wsB (wV v231 true) (kk245 v227 h n) (kk245 (.tp []) h n)) fun kk243 =>
 wsB (wV v231 true) (kk243 v219 h n) (kk243 (.tp []) h n)) fun kk241 =>
 wsB (wV v231 true) ((evLoad tbx 24 v238 h fun v => kk241 v h n)) (kk241 (.tp []) h n)) fun kk239 =>
 wsB (wV v231 true) ((evIa tbx 79 v234 v236 fun v => kk239 v h n)) (kk239 (.tp []) h n)) fun kk237 =>
 wsB (wV v231 true) (kk237 v227 h n) (kk237 (.tp []) h n)) fun kk235 =>
 wsB (wV v231 true) (kk235 v219 h n) (kk235 (.tp []) h n)) fun kk233 =>
 wsB (wV v231 true) (kk233 v225 h n) (kk233 (.tp []) h n)) fu (v6, v8, v10, v12, v14, v16, ()) h n) (
 kk3 (()) h n)) fu (a0, a1, a2, a3, v1, (.i .i64 0), ()) h n
noncomputable def e82 : FE := ⟨Tryz.f82, bd Tryz.f82, [0, 1, 2, 3], [8], (.q .z (.q .z (.q (.q .z (.b [] (.l [0, 1, 2, 3, 9, 10] (.q (.q .z (.c .z .z)) (.q (.b [0, 1, 2, 3, 9, 10] (.q (.b [0, 1, 2, 3, 9, 10] (.l [0, 1, 2, 3, 9, 10] (.q (.q .z (.c .z .z)) (.b [0, 1, 2, 3, 9, 10] .z)))) (.q (.q .z (.c (.q .z .z) .z)) (.q (.q .z (.c (.q .z .z) .z)) (.q .z (.s [0, 1, 2, 3, 9, 10] (.q .z (.c (.q .z (.b [0, 1, 2, 3, 9, 10] (.l [0, 1, 2, 3, 9, 10, 11] (.q (.q .z (.c .z .z)) (.q (.b [0, 1, 2, 3, 9, 10, 11] (.q (.q .z (.c .z .z)) .z)) .z))))) .z)) (.q .z (.c (.q .z (.b [0, 1, 2, 3, 9, 10] (.l [0, 1, 2, 3, 9, 10, 12] (.q (.q .z (.c .z .z)) (.q (.b [0, 1, 2, 3, 9, 10, 12] (.q (.q .z (.c .z .z)) .z)) .z))))) .z)))))))) .z))))) (.q .z .z))))⟩
theorem q82 (fu : Nat) (cf : CF) (a0 a1 a2 a3 : V) (h : H) (n : Id) (k : KV) : evF fu cf e82 [a0, a1, a2, a3] h n k = s82 fu cf a0 a1 a2 a3 h n k := by kernel_rfl
theorem p82 : PfOk Tryz.prog tbx mtab 82 (w4 (s82 fuX)) := pfo e82 Tryz.func82 (by kernel_rfl) (w4_ok (q82 fuX))
noncomputable def s84 (fu : Nat) (cf : CF) (a0 a1 a2 a3 a4 : V) (h : H) (n : Id) (k : KV) : R :=
 evIa tbx 79 a0 a3 fun v1 =>
 evLoad tbx 24 v1 h fun v2 =>
 evIa tbx 79 a0 a1 fun v3 =>
 evLoad tbx 24 v3 h fun v4 =>
 evIa tbx 79 a0 a1 fun v5 =>
 evLoad tbx 24 v1 h fun w336 => cond (eqV 6 w336 v2) (
 evLoad tbx 24 v3 h fun w335 => cond (eqV 6 w335 v4) (
 evStore tbx 24 v5 v2 h n fun _ h n =>
 evIa tbx 79 a0 a3 fun v6 =>
 evStore tbx 24 v6 v4 h n fun _ h n =>
 evBin2 tbx .add 3 a1 (.i .i64 1) fun v7 =>
 evBin2 tbx .sub 3 a2 (.i .i64 1) fun v8 =>
 jp (fun (s9 : VT [0, 1, 4, 12, 13]) h n =>
 pc s9 fun v11 s12 =>
 pc s12 fun v13 s14 =>
 pc s14 fun v15 s16 =>
 pc s16 fun v17 s18 =>
 pc s18 fun v19 s20 =>
 jp (fun (s21 : VT [0, 1, 4, 12, 13]) h n =>
 pc s21 fun v23 s24 =>
 pc s24 fun v25 s26 =>
 pc s26 fun v27 s28 =>
 pc s28 fun v29 s30 =>
 pc s30 fun v31 s32 =>
 evBin2 tbx .gtr 3 v29 v31 fun v33 =>
 brB v33 (
 evIa tbx 79 v23 v25 fun v34 =>
 evLoad tbx 24 v34 h fun v35 =>
 evIa tbx 79 v23 v31 fun v36 =>
 evLoad tbx 24 v36 h fun v37 =>
 evIa tbx 79 v23 v31 fun v38 =>
 evLoad tbx 24 v34 h fun w41 => cond (eqV 6 w41 v35) (
 evLoad tbx 24 v36 h fun w40 => cond (eqV 6 w40 v37) (
 evStore tbx 24 v38 v35 h n fun _ h n =>
 evIa tbx 79 v23 v25 fun v39 =>
 evStore tbx 24 v39 v37 h n fun _ h n =>
 k (.tp [v31, (.b true)]) h n) none) none) (
 evIa tbx 79 v23 v31 fun v42 =>
 evLoad tbx 24 v42 h fun v43 =>
 evIa tbx 79 v23 v29 fun v44 =>
 evLoad tbx 24 v44 h fun v45 =>
 evIa tbx 79 v23 v29 fun v46 =>
 evLoad tbx 24 v42 h fun w230 => cond (eqV 6 w230 v43) (
 evLoad tbx 24 v44 h fun w229 => cond (eqV 6 w229 v45) (
 evStore tbx 24 v46 v43 h n fun _ h n =>
 evIa tbx 79 v23 v31 fun v47 =>
 evStore tbx 24 v47 v45 h n fun _ h n =>
 evBin2 tbx .add 3 v29 (.i .i64 1) fun v48 =>
 evBin2 tbx .sub 3 v31 (.i .i64 1) fun v49 =>
 jp (fun (s50 : VT [0, 1, 13]) h n =>
 pc s50 fun v52 s53 =>
 pc s53 fun v54 s55 =>
 pc s55 fun v56 s57 =>
 evIa tbx 79 v52 v54 fun v58 =>
 evLoad tbx 24 v58 h fun v59 =>
 evIa tbx 79 v52 v56 fun v60 =>
 evLoad tbx 24 v60 h fun v61 =>
 evIa tbx 79 v52 v56 fun v62 =>
 evLoad tbx 24 v58 h fun w65 => cond (eqV 6 w65 v59) (
 evLoad tbx 24 v60 h fun w64 => cond (eqV 6 w64 v61) (
 evStore tbx 24 v62 v59 h n fun _ h n =>
 evIa tbx 79 v52 v54 fun v63 =>
 evStore tbx 24 v63 v61 h n fun _ h n =>
 k (.tp [v56, (.b false)]) h n) none) none) fun kk51 =>
 lpC [0, 1, 4, 12, 13] (fun lo67 s66 h n =>
 pc s66 fun v68 s69 =>
 pc s69 fun v70 s71 =>
 pc s71 fun v72 s73 =>
 pc s73 fun v74 s75 =>
 pc s75 fun v76 s77 =>
 jp (fun (s78 : VT [0, 1, 4, 12, 13]) h n =>
 pc s78 fun v80 s81 =>
 pc s81 fun v82 s83 =>
 pc s83 fun v84 s85 =>
 pc s85 fun v86 s87 =>
 pc s87 fun v88 s89 =>
 lo67 (v80, v82, v84, v86, v88, ()) h n) fun kk79 =>
 jp (fun (s90 : VT [0, 1, 4, 12, 13]) h n =>
 pc s90 fun v92 s93 =>
 pc s93 fun v94 s95 =>
 pc s95 fun v96 s97 =>
 pc s97 fun v98 s99 =>
 pc s99 fun v100 s101 =>
 jp (fun (s102 : VT [0, 1, 4, 12, 13]) h n =>
 pc s102 fun v104 s105 =>
 pc s105 fun v106 s107 =>
 pc s107 fun v108 s109 =>
 pc s109 fun v110 s111 =>
 pc s111 fun v112 s113 =>
 evBin2 tbx .gtr 3 v110 v112 fun v114 =>
 brB v114 (
 kk51 (v104, v106, v112, ()) h n) (
 evIa tbx 79 v104 v112 fun v115 =>
 evLoad tbx 24 v115 h fun v116 =>
 evIa tbx 79 v104 v110 fun v117 =>
 evLoad tbx 24 v117 h fun v118 =>
 evIa tbx 79 v104 v110 fun v119 =>
 evLoad tbx 24 v115 h fun w124 => cond (eqV 6 w124 v116) (
 evLoad tbx 24 v117 h fun w123 => cond (eqV 6 w123 v118) (
 evStore tbx 24 v119 v116 h n fun _ h n =>
 evIa tbx 79 v104 v112 fun v120 =>
 evStore tbx 24 v120 v118 h n fun _ h n =>
 evBin2 tbx .add 3 v110 (.i .i64 1) fun v121 =>
 evBin2 tbx .sub 3 v112 (.i .i64 1) fun v122 =>
 kk79 (v104, v106, v108, v121, v122, ()) h n) none) none)) fun kk103 =>
 lpC [0, 1, 4, 12, 13] (fun lo126 s125 h n =>
 pc s125 fun v127 s128 =>
 pc s128 fun v129 s130 =>
 pc s130 fun v131 s132 =>
 pc s132 fun v133 s134 =>
 pc s134 fun v135 s136 =>
 evBin2 tbx .leq 3 v133 v135 fun v137 =>
 jp (fun (v138 : V) h n =>
 jp (fun (v140 : V) h n =>
 jp (fun (v142 : V) h n =>
 jp (fun (v144 : V) h n =>
 jp (fun (v146 : V) h n =>
 jp (fun (v148 : V) h n =>
 jp (fun (v150 : V) h n =>
 jp (fun (v152 : V) h n =>
 jp (fun (v154 : V) h n =>
 thenR (wsB (wV v137 true) (evLoad tbx 24 v144 h fun w156 => cond (eqV 6 w156 v146) (okR) none) (cond (eqV 2 v146 (.tp [])) okR none)) (
 thenR (wsB (wV v137 true) (evLoad tbx 24 v152 h fun w157 => cond (eqV 6 w157 v154) (okR) none) (cond (eqV 2 v154 (.tp [])) okR none)) (
 jp (fun (v158 : V) h n =>
 jp (fun (v160 : V) h n =>
 jp (fun (v162 : V) h n =>
 evPick v137 v162 (.b false) fun v164 =>
 brB v164 (
 jp (fun (s165 : VT [0, 1, 4, 12, 13]) h n =>
 pc s165 fun v167 s168 =>
 pc s168 fun v169 s170 =>
 pc s170 fun v171 s172 =>
 pc s172 fun v173 s174 =>
 pc s174 fun v175 s176 =>
 lo126 (v167, v169, v171, v173, v175, ()) h n) fun kk166 =>
 evBin2 tbx .sub 3 v135 (.i .i64 1) fun v177 =>
 kk166 (v127, v129, v131, v133, v177, ()) h n) (
 kk103 (v127, v129, v131, v133, v135, ()) h n)) fun kk163 =>
 wsB (wV v137 true) ((evUn .not v160 fun v => kk163 v h n)) (kk163 (.tp []) h n)) fun kk161 =>
 wsB (wV v137 true) ((evBin2 tbx .lss 3 v158 (.i .i64 0) fun v => kk161 v h n)) (kk161 (.tp []) h n)) fun kk159 =>
 wsB (wV v137 true) ((evCall cf v138 [v146, v154] h n kk159)) (kk159 (.tp []) h n)))) fun kk155 =>
 wsB (wV v137 true) ((evLoad tbx 24 v152 h fun v => kk155 v h n)) (kk155 (.tp []) h n)) fun kk153 =>
 wsB (wV v137 true) ((evIa tbx 79 v148 v150 fun v => kk153 v h n)) (kk153 (.tp []) h n)) fun kk151 =>
 wsB (wV v137 true) (kk151 v129 h n) (kk151 (.tp []) h n)) fun kk149 =>
 wsB (wV v137 true) (kk149 v127 h n) (kk149 (.tp []) h n)) fun kk147 =>
 wsB (wV v137 true) ((evLoad tbx 24 v144 h fun v => kk147 v h n)) (kk147 (.tp []) h n)) fun kk145 =>
 wsB (wV v137 true) ((evIa tbx 79 v140 v142 fun v => kk145 v h n)) (kk145 (.tp []) h n)) fun kk143 =>
 wsB (wV v137 true) (kk143 v135 h n) (kk143 (.tp []) h n)) fun kk141 =>
 wsB (wV v137 true) (kk141 v127 h n) (kk141 (.tp []) h n)) fun kk139 =>
 wsB (wV v137 true) (kk139 v131 h n) (kk139 (.tp []) h n)) fu (v92, v94, v96, v98, v100, ()) h n) fun kk91 =>
 lpC [0, 1, 4, 12, 13] (fun lo179 s178 h n =>
 pc s178 fun v180 s181 =>
 pc s181 fun v182 s183 =>
 pc s183 fun v184 s185 =>
 pc s185 fun v186 s187 =>
 pc s187 fun v188 s189 =>
 evBin2 tbx .leq 3 v186 v188 fun v190 =>
 jp (fun (v191 : V) h n =>
 jp (fun (v193 : V) h n =>
 jp (fun (v195 : V) h n =>
 jp (fun (v197 : V) h n =>
 jp (fun (v199 : V) h n =>
 jp (fun (v201 : V) h n =>
 jp (fun (v203 : V) h n =>
 jp (fun (v205 : V) h n =>
 jp (fun (v207 : V) h n =>
 thenR (wsB (wV v190 true) (evLoad tbx 24 v197 h fun w209 => cond (eqV 6 w209 v199) (okR) none) (cond (eqV 2 v199 (.tp [])) okR none)) (
 thenR (wsB (wV v190 true) (evLoad tbx 24 v205 h fun w210 => cond (eqV 6 w210 v207) (okR) none) (cond (eqV 2 v207 (.tp [])) okR none)) (
 jp (fun (v211 : V) h n =>
 jp (fun (v213 : V) h n =>
 evPick v190 v213 (.b false) fun v215 =>
 brB v215 (
 jp (fun (s216 : VT [0, 1, 4, 12, 13]) h n =>
 pc s216 fun v218 s219 =>
 pc s219 fun v220 s221 =>
 pc s221 fun v222 s223 =>
 pc s223 fun v224 s225 =>
 pc s225 fun v226 s227 =>
 lo179 (v218, v220, v222, v224, v226, ()) h n) fun kk217 =>
 evBin2 tbx .add 3 v186 (.i .i64 1) fun v228 =>
 kk217 (v180, v182, v184, v228, v188, ()) h n) (
 kk91 (v180, v182, v184, v186, v188, ()) h n)) fun kk214 =>
 wsB (wV v190 true) ((evBin2 tbx .lss 3 v211 (.i .i64 0) fun v => kk214 v h n)) (kk214 (.tp []) h n)) fun kk212 =>
 wsB (wV v190 true) ((evCall cf v191 [v199, v207] h n kk212)) (kk212 (.tp []) h n)))) fun kk208 =>
 wsB (wV v190 true) ((evLoad tbx 24 v205 h fun v => kk208 v h n)) (kk208 (.tp []) h n)) fun kk206 =>
 wsB (wV v190 true) ((evIa tbx 79 v201 v203 fun v => kk206 v h n)) (kk206 (.tp []) h n)) fun kk204 =>
 wsB (wV v190 true) (kk204 v182 h n) (kk204 (.tp []) h n)) fun kk202 =>
 wsB (wV v190 true) (kk202 v180 h n) (kk202 (.tp []) h n)) fun kk200 =>
 wsB (wV v190 true) ((evLoad tbx 24 v197 h fun v => kk200 v h n)) (kk200 (.tp []) h n)) fun kk198 =>
 wsB (wV v190 true) ((evIa tbx 79 v193 v195 fun v => kk198 v h n)) (kk198 (.tp []) h n)) fun kk196 =>
 wsB (wV v190 true) (kk196 v186 h n) (kk196 (.tp []) h n)) fun kk194 =>
 wsB (wV v190 true) (kk194 v180 h n) (kk194 (.tp []) h n)) fun kk192 =>
 wsB (wV v190 true) (kk192 v184 h n) (kk192 (.tp []) h n)) fu (v68, v70, v72, v74, v76, ()) h n) fu (v23, v25, v27, v48, v49, ()) h n) none) none)) fun kk22 =>
 lpC [0, 1, 4, 12, 13] (fun lo232 s231 h n =>
 pc s231 fun v233 s234 =>
 pc s234 fun v235 s236 =>
 pc s236 fun v237 s238 =>
 pc s238 fun v239 s240 =>
 pc s240 fun v241 s242 =>
 evBin2 tbx .leq 3 v239 v241 fun v243 =>
 jp (fun (v244 : V) h n =>
 jp (fun (v246 : V) h n =>
 jp (fun (v248 : V) h n =>
 jp (fun (v250 : V) h n =>
 jp (fun (v252 : V) h n =>
 jp (fun (v254 : V) h n =>
 jp (fun (v256 : V) h n =>
 jp (fun (v258 : V) h n =>
 jp (fun (v260 : V) h n =>
 thenR (wsB (wV v243 true) (evLoad tbx 24 v250 h fun w262 => cond (eqV 6 w262 v252) (okR) none) (cond (eqV 2 v252 (.tp [])) okR none)) (
 thenR (wsB (wV v243 true) (evLoad tbx 24 v258 h fun w263 => cond (eqV 6 w263 v260) (okR) none) (cond (eqV 2 v260 (.tp [])) okR none)) (
 jp (fun (v264 : V) h n =>
 jp (fun (v266 : V) h n =>
 jp (fun (v268 : V) h n =>
 evPick v243 v268 (.b false) fun v270 =>
 brB v270 (
 jp (fun (s271 : VT [0, 1, 4, 12, 13]) h n =>
 pc s271 fun v273 s274 =>
 pc s274 fun v275 s276 =>
 pc s276 fun v277 s278 =>
 pc s278 fun v279 s280 =>
 pc s280 fun v281 s282 =>
 lo232 (v273, v275, v277, v279, v281, ()) h n) fun kk272 =>
 evBin2 tbx .sub 3 v241 (.i .i64 1) fun v283 =>
 kk272 (v233, v235, v237, v239, v283, ()) h n) (
 kk22 (v233, v235, v237, v239, v241, ()) h n)) fun kk269 =>
 wsB (wV v243 true) ((evUn .not v266 fun v => kk269 v h n)) (kk269 (.tp []) h n)) fun kk267 =>
 wsB (wV v243 true) ((evBin2 tbx .lss 3 v264 (.i .i64 0) fun v => kk267 v h n)) (kk267 (.tp []) h n)) fun kk265 =>
 wsB (wV v243 true) ((evCall cf v244 [v252, v260] h n kk265)) (kk265 (.tp []) h n)))) fun kk261 =>
 wsB (wV v243 true) ((evLoad tbx 24 v258 h fun v => kk261 v h n)) (kk261 (.tp []) h n)) fun kk259 =>
 wsB (wV v243 true) ((evIa tbx 79 v254 v256 fun v => kk259 v h n)) (kk259 (.tp []) h n)) fun kk257 =>
 wsB (wV v243 true) (kk257 v235 h n) (kk257 (.tp []) h n)) fun kk255 =>
 wsB (wV v243 true) (kk255 v233 h n) (kk255 (.tp []) h n)) fun kk253 =>
 wsB (wV v243 true) ((evLoad tbx 24 v250 h fun v => kk253 v h n)) (kk253 (.tp []) h n)) fun kk251 =>
 wsB (wV v243 true) ((evIa tbx 79 v246 v248 fun v => kk251 v h n)) (kk251 (.tp []) h n)) fun kk249 =>
 wsB (wV v243 true) (kk249 v241 h n) (kk249 (.tp []) h n)) fun kk247 =>
 wsB (wV v243 true) (kk247 v233 h n) (kk247 (.tp []) h n)) fun kk245 =>
 wsB (wV v243 true) (kk245 v237 h n) (kk245 (.tp []) h n)) fu (v11, v13, v15, v17, v19, ()) h n) fun kk10 =>
 lpC [0, 1, 4, 12, 13] (fun lo285 s284 h n =>
 pc s284 fun v286 s287 =>
 pc s287 fun v288 s289 =>
 pc s289 fun v290 s291 =>
 pc s291 fun v292 s293 =>
 pc s293 fun v294 s295 =>
 evBin2 tbx .leq 3 v292 v294 fun v296 =>
 jp (fun (v297 : V) h n =>
 jp (fun (v299 : V) h n =>
 jp (fun (v301 : V) h n =>
 jp (fun (v303 : V) h n =>
 jp (fun (v305 : V) h n =>
 jp (fun (v307 : V) h n =>
 jp (fun (v309 : V) h n =>
 jp (fun (v311 : V) h n =>
 jp (fun (v313 : V) h n =>
 thenR (wsB (wV v296 true) (evLoad tbx 24 v303 h fun w315 => cond (eqV 6 w315 v305) (okR) none) (cond (eqV 2 v305 (.tp [])) okR none)) (
 thenR (wsB (wV v296 true) (evLoad tbx 24 v311 h fun w316 => cond (eqV 6 w316 v313) (okR) none) (cond (eqV 2 v313 (.tp [])) okR none)) (
 jp (fun (v317 : V) h n =>
 jp (fun (v319 : V) h n =>
 evPick v296 v319 (.b false) fun v321 =>
 brB v321 (
 jp (fun (s322 : VT [0, 1, 4, 12, 13]) h n =>
 pc s322 fun v324 s325 =>
 pc s325 fun v326 s327 =>
 pc s327 fun v328 s329 =>
 pc s329 fun v330 s331 =>
 pc s331 fun v332 s333 =>
 lo285 (v324, v326, v328, v330, v332, ()) h n) fun kk323 =>
 evBin2 tbx .add 3 v292 (.i .i64 1) fun v334 =>
 kk323 (v286, v288, v290, v334, v294, ()) h n) (
 kk10 (v286, v288, v290, v292, v294, ()) h n)) fun kk320 =>
 wsB (wV v296 true) ((evBin2 tbx .lss 3 v317 (.i .i64 0) fun v => kk320 v h n)) (kk320 (.tp []) h n)) fun kk318 =>
 wsB (wV v296 true) ((evCall cf v297 [v305, v313] h n kk318)) (kk318 (.tp []) h n)))) fun kk314 =>
 wsB (wV v296 true) ((evLoad tbx 24 v311 h fun v => kk314 v h n)) (kk314 (.tp []) h n)) fun kk312 =>
 wsB (wV v296 true) ((evIa tbx 79 v307 v309 fun v => kk312 v h n)) (kk312 (.tp []) h n)) fun kk310 =>
 wsB (wV v296 true) (kk310 v288 h n) (kk310 (.tp []) h n)) fun kk308 =>
 wsB (wV v296 true) (kk308 v286 h n) (kk308 (.tp []) h n)) fun kk306 =>
 wsB (wV v296 true) ((evLoad tbx 24 v303 h fun v => kk306 v h n)) (kk306 (.tp []) h n)) fun kk304 =>
 wsB (wV v296 true) ((evIa tbx 79 v299 v301 fun v => kk304 v h n)) (kk304 (.tp []) h n)) fun kk302 =>
 wsB (wV v296 true) (kk302 v292 h n) (kk302 (.tp []) h n)) fun kk300 =>
 wsB (wV v296 true) (kk300 v286 h n) (kk300 (.tp []) h n)) fun kk298 =>
 wsB (wV v296 true) (kk298 v290 h n) (kk298 (.tp []) h n)) fu (a0, a1, a4, v7, v8, ()) h n) none) none
noncomputable def e84 : FE := ⟨Tryz.f84, bd Tryz.f84, [0, 1, 2, 3, 4], [10, 11], (.q .z (.q .z (.q .z (.q (.b [0, 1, 4, 12, 13] (.l [0, 1, 4, 12, 13] (.q (.q .z (.c .z .z)) (.b [0, 1, 4, 12, 13] .z)))) (.q (.b [0, 1, 4, 12, 13] (.l [0, 1, 4, 12, 13] (.q (.q .z (.c .z .z)) (.b [0, 1, 4, 12, 13] .z)))) (.q (.q .z (.c (.q .z (.q .z .z)) .z)) (.q .z (.q .z (.q .z (.q (.b [0, 1, 13] (.l [0, 1, 4, 12, 13] (.b [0, 1, 4, 12, 13] (.q (.b [0, 1, 4, 12, 13] (.l [0, 1, 4, 12, 13] (.q (.q .z (.c .z .z)) (.b [0, 1, 4, 12, 13] .z)))) (.q (.b [0, 1, 4, 12, 13] (.l [0, 1, 4, 12, 13] (.q (.q .z (.c .z .z)) (.b [0, 1, 4, 12, 13] .z)))) (.q (.q .z (.c .z .z)) (.q .z (.q .z .z)))))))) (.q .z (.q .z .z))))))))))))⟩
theorem q84 (fu : Nat) (cf : CF) (a0 a1 a2 a3 a4 : V) (h : H) (n : Id) (k : KV) : evF fu cf e84 [a0, a1, a2, a3, a4] h n k = s84 fu cf a0 a1 a2 a3 a4 h n k := by kernel_rfl
theorem p84 : PfOk Tryz.prog tbx mtab 84 (w5 (s84 fuX)) := pfo e84 Tryz.func84 (by kernel_rfl) (w5_ok (q84 fuX))
noncomputable def s85 (fu : Nat) (cf : CF) (a0 : V) (h : H) (n : Id) (k : KV) : R :=
 jp (fun (s1 : VT [0, 2]) h n =>
 pc s1 fun v3 s4 =>
 pc s4 fun v5 s6 =>
 jp (fun (s7 : VT [0, 2]) h n =>
 pc s7 fun v9 s10 =>
 pc s10 fun v11 s12 =>
 evConv2 tbx mtab 146 5 v9 h n fun v13 h n =>
 evIx tbx 9 (.s 256 496986003408712215933005303621146343841837811690876167382323004466384420695090407243345123874780946046625255262057845613767806773758184921447759720770971536008171983842311960805720366577116933250839345203839274948261284255908394484732272583221484877694546905335834403051067785895034095251181560891789708940188598129052595634438001880866652824740680664595948164050600812232986714152902334120417949232733424961741260388658846598210939813666227264727603044226856020347194099943897342244906131705541414413428559898943151040826816076322978570758226444464494629814583418847495712557856038296917933182380796641777551368) v13 fun v14 =>
 evConv2 tbx mtab 5 3 v14 h n fun v15 h n =>
 evBin2 tbx .add 3 v11 v15 fun v16 =>
 k v16 h n) fun kk8 =>
 evBin2 tbx .geq 146 v3 (.i .u32 256) fun v17 =>
 brB v17 (
 evBin2 tbx .shr 146 v3 (.i .u64 8) fun v18 =>
 evBin2 tbx .add 3 v5 (.i .i64 8) fun v19 =>
 kk8 (v18, v19, ()) h n) (
 kk8 (v3, v5, ()) h n)) fun kk2 =>
 evBin2 tbx .geq 146 a0 (.i .u32 65536) fun v20 =>
 brB v20 (
 evBin2 tbx .shr 146 a0 (.i .u64 16) fun v21 =>
 kk2 (v21, (.i .i64 16), ()) h n) (
 kk2 (a0, (.i .i64 0), ()) h n)
noncomputable def e85 : FE := ⟨Tryz.f85, bd Tryz.f85, [0], [2], (.q .z (.s [0, 2] (.q .z (.c (.q .z .z) .z)) (.s [0, 2] (.q .z (.c (.q .z .z) .z)) (.q .z .z))))⟩
theorem q85 (fu : Nat) (cf : CF) (a0 : V) (h : H) (n : Id) (k : KV) : evF fu cf e85 [a0] h n k = s85 fu cf a0 h n k := by kernel_rfl
theorem p85 : PfOk Tryz.prog tbx mtab 85 (w1 (s85 fuX)) := pfo e85 Tryz.func85 (by kernel_rfl) (w1_ok (q85 fuX))
noncomputable def s86 (fu : Nat) (cf : CF) (a0 : V) (h : H) (n : Id) (k : KV) : R :=
 jp (fun (s1 : VT [0, 2]) h n =>
 pc s1 fun v3 s4 =>
 pc s4 fun v5 s6 =>
 jp (fun (s7 : VT [0, 2]) h n =>
 pc s7 fun v9 s10 =>
 pc s10 fun v11 s12 =>
 jp (fun (s13 : VT [0, 2]) h n =>
 pc s13 fun v15 s16 =>
 pc s16 fun v17 s18 =>
 evConv2 tbx mtab 148 5 v15 h n fun v19 h n =>
 evIx tbx 9 (.s 256 496986003408712215933005303621146343841837811690876167382323004466384420695090407243345123874780946046625255262057845613767806773758184921447759720770971536008171983842311960805720366577116933250839345203839274948261284255908394484732272583221484877694546905335834403051067785895034095251181560891789708940188598129052595634438001880866652824740680664595948164050600812232986714152902334120417949232733424961741260388658846598210939813666227264727603044226856020347194099943897342244906131705541414413428559898943151040826816076322978570758226444464494629814583418847495712557856038296917933182380796641777551368) v19 fun v20 =>
 evConv2 tbx mtab 5 3 v20 h n fun v21 h n =>
 evBin2 tbx .add 3 v17 v21 fun v22 =>
 k v22 h n) fun kk14 =>
 evBin2 tbx .geq 148 v9 (.i .u64 256) fun v23 =>
 brB v23 (
 evBin2 tbx .shr 148 v9 (.i .u64 8) fun v24 =>
 evBin2 tbx .add 3 v11 (.i .i64 8) fun v25 =>
 kk14 (v24, v25, ()) h n) (
 kk14 (v9, v11, ()) h n)) fun kk8 =>
 evBin2 tbx .geq 148 v3 (.i .u64 65536) fun v26 =>
 brB v26 (
 evBin2 tbx .shr 148 v3 (.i .u64 16) fun v27 =>
 evBin2 tbx .add 3 v5 (.i .i64 16) fun v28 =>
 kk8 (v27, v28, ()) h n) (
 kk8 (v3, v5, ()) h n)) fun kk2 =>
 evBin2 tbx .geq 148 a0 (.i .u64 4294967296) fun v29 =>
 brB v29 (
 evBin2 tbx .shr 148 a0 (.i .u64 32) fun v30 =>
 kk2 (v30, (.i .i64 32), ()) h n) (
 kk2 (a0, (.i .i64 0), ()) h n)
noncomputable def e86 : FE := ⟨Tryz.f86, bd Tryz.f86, [0], [2], (.q .z (.s [0, 2] (.q .z (.c (.q .z .z) .z)) (.s [0, 2] (.q .z (.c (.q .z .z) .z)) (.s [0, 2] (.q .z (.c (.q .z .z) .z)) (.q .z .z)))))⟩
theorem q86 (fu : Nat) (cf : CF) (a0 : V) (h : H) (n : Id) (k : KV) : evF fu cf e86 [a0] h n k = s86 fu cf a0 h n k := by kernel_rfl
theorem p86 : PfOk Tryz.prog tbx mtab 86 (w1 (s86 fuX)) := pfo e86 Tryz.func86 (by kernel_rfl) (w1_ok (q86 fuX))
noncomputable def s87 (fu : Nat) (cf : CF) (a0 : V) (h : H) (n : Id) (k : KV) : R :=
 evBin2 tbx .neq 9 a0 a0 fun v1 =>
 k v1 h n
noncomputable def e87 : FE := ⟨Tryz.f87, bd Tryz.f87, [0], [2], (.q .z (.q .z .z))⟩
theorem q87 (fu : Nat) (cf : CF) (a0 : V) (h : H) (n : Id) (k : KV) : evF fu cf e87 [a0] h n k = s87 fu cf a0 h n k := by kernel_rfl
theorem p87 : PfOk Tryz.prog tbx mtab 87 (w1 (s87 fuX)) := pfo e87 Tryz.func87 (by kernel_rfl) (w1_ok (q87 fuX))
noncomputable def s88 (fu : Nat) (cf : CF) (a0 a1 : V) (h : H) (n : Id) (k : KV) : R :=
 jp (fun (s3 : VT [4]) h n =>
 pc s3 fun v6 s7 =>
 k v6 h n) fun kk1 =>
 jp (lpC [0, 1, 5] (fun lo5 s4 h n =>
 pc s4 fun v8 s9 =>
 pc s9 fun v10 s11 =>
 pc s11 fun v12 s13 =>
 cf 131 [v8, v12] h n fun v14 h n =>
 cf 131 [v10, v12] h n fun v15 h n =>
 cf 130 [v14, v15] h n fun v16 h n =>
 evBin2 tbx .add 3 v12 (.i .i64 1) fun v17 =>
 evBin2 tbx .eql 3 v16 (.i .i64 0) fun v18 =>
 jp (fun (v19 : V) h n =>
 jp (fun (v21 : V) h n =>
 jp (fun (v23 : V) h n =>
 jp (fun (v25 : V) h n =>
 jp (fun (v27 : V) h n =>
 jp (fun (v29 : V) h n =>
 jp (fun (v31 : V) h n =>
 evPick v18 v31 (.b false) fun v33 =>
 brB v33 (
 lo5 (v8, v10, v17, ()) h n) (
 k v16 h n)) fun kk32 =>
 gdB v18 true ((evBin2 tbx .lss 3 v19 v29 fun v => kk32 v h n)) (kk32 (.tp []) h n)) fun kk30 =>
 gdB v18 true ((evMax v23 v27 fun v => kk30 v h n)) (kk30 (.tp []) h n)) fun kk28 =>
 gdB v18 true ((evLen tbx 151 v25 fun v => kk28 v h n)) (kk28 (.tp []) h n)) fun kk26 =>
 gdB v18 true (kk26 v10 h n) (kk26 (.tp []) h n)) fun kk24 =>
 gdB v18 true ((evLen tbx 151 v21 fun v => kk24 v h n)) (kk24 (.tp []) h n)) fun kk22 =>
 gdB v18 true (kk22 v8 h n) (kk22 (.tp []) h n)) fun kk20 =>
 gdB v18 true (kk20 v17 h n) (kk20 (.tp []) h n)) fu) fun lo2 =>
 cf 131 [a0, (.i .i64 0)] h n fun v34 h n =>
 cf 131 [a1, (.i .i64 0)] h n fun v35 h n =>
 cf 130 [v34, v35] h n fun v36 h n =>
 evBin2 tbx .add 3 (.i .i64 0) (.i .i64 1) fun v37 =>
 evBin2 tbx .eql 3 v36 (.i .i64 0) fun v38 =>
 jp (fun (v39 : V) h n =>
 jp (fun (v41 : V) h n =>
 jp (fun (v43 : V) h n =>
 jp (fun (v45 : V) h n =>
 jp (fun (v47 : V) h n =>
 jp (fun (v49 : V) h n =>
 jp (fun (v51 : V) h n =>
 evPick v38 v51 (.b false) fun v53 =>
 brB v53 (
 lo2 (a0, a1, v37, ()) h n) (
 k v36 h n)) fun kk52 =>
 gdB v38 true ((evBin2 tbx .lss 3 v39 v49 fun v => kk52 v h n)) (kk52 (.tp []) h n)) fun kk50 =>
 gdB v38 true ((evMax v43 v47 fun v => kk50 v h n)) (kk50 (.tp []) h n)) fun kk48 =>
 gdB v38 true ((evLen tbx 151 v45 fun v => kk48 v h n)) (kk48 (.tp []) h n)) fun kk46 =>
 gdB v38 true (kk46 a1 h n) (kk46 (.tp []) h n)) fun kk44 =>
 gdB v38 true ((evLen tbx 151 v41 fun v => kk44 v h n)) (kk44 (.tp []) h n)) fun kk42 =>
 gdB v38 true (kk42 a0 h n) (kk42 (.tp []) h n)) fun kk40 =>
 gdB v38 true (kk40 v37 h n) (kk40 (.tp []) h n)
noncomputable def e88 : FE := ⟨Tryz.f88, bd Tryz.f88, [0, 1], [4], (.q .z (.g 0 [0, 1, 5] [4] (.q .z (.q .z (.q .z (.q .z (.q (.q .z (.c .z .z)) (.q .z .z)))))) (.q .z (.q .z (.q .z (.q (.q .z (.c .z .z)) (.q .z .z)))))))⟩
theorem q88 (fu : Nat) (cf : CF) (a0 a1 : V) (h : H) (n : Id) (k : KV) : evF fu cf e88 [a0, a1] h n k = s88 fu cf a0 a1 h n k := by kernel_rfl
theorem p88 : PfOk Tryz.prog tbx mtab 88 (w2 (s88 fuX)) := pfo e88 Tryz.func88 (by kernel_rfl) (w2_ok (q88 fuX))
noncomputable def s89 (fu : Nat) (cf : CF) (a0 : V) (h : H) (n : Id) (k : KV) : R :=
 jp (fun (s3 : VT [2]) h n =>
 pc s3 fun v6 s7 =>
 k v6 h n) fun kk1 =>
 jp (lpC [3, 4] (fun lo5 s4 h n =>
 pc s4 fun v8 s9 =>
 pc s9 fun v10 s11 =>
 evLen tbx 205 v10 fun v12 =>
 evBin2 tbx .eql 3 v12 (.i .i64 0) fun v13 =>
 brB v13 (
 cf 134 [v8] h n fun v14 h n =>
 k v8 h n) (
 evLen tbx 205 v10 fun v15 =>
 evBin2 tbx .sub 3 v15 (.i .i64 1) fun v16 =>
 evIa tbx 205 v10 v16 fun v17 =>
 evLoad tbx 210 v17 h fun v18 =>
 cf 135 [v18] h n fun v19 h n =>
 evAlloc tbx 203 h n fun v20 h n =>
 evStore tbx 203 v20 v19 h n fun _ h n =>
 evLen tbx 205 v10 fun v21 =>
 evBin2 tbx .sub 3 v21 (.i .i64 1) fun v22 =>
 evSlc tbx 205 v10 none (some v22) fun v23 =>
 jp (fun (s24 : VT [3, 4]) h n =>
 pc s24 fun v26 s27 =>
 pc s27 fun v28 s29 =>
 lo5 (v26, v28, ()) h n) fun kk25 =>
 evFa tbx 203 0 v20 fun v30 =>
 evLoad tbx 3 v30 h fun v31 =>
 evBin2 tbx .neq 3 v31 (.i .i64 6) fun v32 =>
 jp (fun (v33 : V) h n =>
 jp (fun (v35 : V) h n =>
 jp (fun (v37 : V) h n =>
 jp (fun (v39 : V) h n =>
 jp (fun (v41 : V) h n =>
 jp (fun (v43 : V) h n =>
 jp (fun (v45 : V) h n =>
 jp (fun (v47 : V) h n =>
 jp (fun (v49 : V) h n =>
 jp (fun (v51 : V) h n =>
 jp (fun (v53 : V) h n =>
 jp (fun (v55 : V) h n =>
 jp (fun (v57 : V) h n =>
 jp (fun (v59 : V) h n =>
 jp (fun (v61 : V) h n =>
 jp (fun (v63 : V) h n =>
 jp (fun (v65 : V) h n =>
 jp (fun (v67 : V) h n =>
 jp (fun (v69 : V) h n =>
 jp (fun (v71 : V) h n =>
 jp (fun (v73 : V) h n =>
 jp (fun (v75 : V) h n =>
 jp (fun (v77 : V) h n =>
 evPick v32 (.b true) v77 fun v79 =>
 brB v79 (
 evLoad tbx 203 v20 h fun v80 =>
 evBuildSl tbx 151 1 [(0, v80)] h n fun v81 h n =>
 evApp tbx 151 151 v8 v81 h n fun v82 h n =>
 kk25 (v82, v23, ()) h n) (
 kk25 (v8, v23, ()) h n)) fun kk78 =>
 gdB v32 false ((evPick v39 v75 (.b false) fun v => kk78 v h n)) (kk78 (.tp []) h n)) fun kk76 =>
 gdB v39 true ((evPick v57 (.b true) v73 fun v => kk76 v h n)) (kk76 (.tp []) h n)) fun kk74 =>
 gdB v57 false ((evBin2 tbx .eql 3 v71 (.i .i64 10) fun v => kk74 v h n)) (kk74 (.tp []) h n)) fun kk72 =>
 gdB v57 false ((evLoad tbx 3 v69 h fun v => kk72 v h n)) (kk72 (.tp []) h n)) fun kk70 =>
 gdB v57 false ((evFa tbx 203 0 v67 fun v => kk70 v h n)) (kk70 (.tp []) h n)) fun kk68 =>
 gdB v57 false ((evIa tbx 151 v59 v65 fun v => kk68 v h n)) (kk68 (.tp []) h n)) fun kk66 =>
 gdB v57 false ((evBin2 tbx .sub 3 v63 (.i .i64 1) fun v => kk66 v h n)) (kk66 (.tp []) h n)) fun kk64 =>
 gdB v57 false ((evLen tbx 151 v61 fun v => kk64 v h n)) (kk64 (.tp []) h n)) fun kk62 =>
 gdB v57 false (kk62 v8 h n) (kk62 (.tp []) h n)) fun kk60 =>
 gdB v57 false (kk60 v8 h n) (kk60 (.tp []) h n)) fun kk58 =>
 gdB v39 true (kk58 v55 h n) (kk58 (.tp []) h n)) fun kk56 =>
 gdB v39 true ((evBin2 tbx .eql 3 v53 (.i .i64 6) fun v => kk56 v h n)) (kk56 (.tp []) h n)) fun kk54 =>
 gdB v39 true ((evLoad tbx 3 v51 h fun v => kk54 v h n)) (kk54 (.tp []) h n)) fun kk52 =>
 gdB v39 true ((evFa tbx 203 0 v49 fun v => kk52 v h n)) (kk52 (.tp []) h n)) fun kk50 =>
 gdB v39 true ((evIa tbx 151 v41 v47 fun v => kk50 v h n)) (kk50 (.tp []) h n)) fun kk48 =>
 gdB v39 true ((evBin2 tbx .sub 3 v45 (.i .i64 1) fun v => kk48 v h n)) (kk48 (.tp []) h n)) fun kk46 =>
 gdB v39 true ((evLen tbx 151 v43 fun v => kk46 v h n)) (kk46 (.tp []) h n)) fun kk44 =>
 gdB v39 true (kk44 v8 h n) (kk44 (.tp []) h n)) fun kk42 =>
 gdB v39 true (kk42 v8 h n) (kk42 (.tp []) h n)) fun kk40 =>
 gdB v32 false (kk40 v37 h n) (kk40 (.tp []) h n)) fun kk38 =>
 gdB v32 false ((evBin2 tbx .gtr 3 v35 (.i .i64 0) fun v => kk38 v h n)) (kk38 (.tp []) h n)) fun kk36 =>
 gdB v32 false ((evLen tbx 151 v33 fun v => kk36 v h n)) (kk36 (.tp []) h n)) fun kk34 =>
 gdB v32 false (kk34 v8 h n) (kk34 (.tp []) h n))) fu) fun lo2 =>
 cf 133 [a0] h n fun v83 h n =>
 cf 132 [v83] h n fun v84 h n =>
 evLen tbx 205 v84 fun v85 =>
 evBin2 tbx .eql 3 v85 (.i .i64 0) fun v86 =>
 brB v86 (
 cf 134 [.ns] h n fun v87 h n =>
 k .ns h n) (
 evLen tbx 205 v84 fun v88 =>
 evBin2 tbx .sub 3 v88 (.i .i64 1) fun v89 =>
 evIa tbx 205 v84 v89 fun v90 =>
 evLoad tbx 210 v90 h fun v91 =>
 cf 135 [v91] h n fun v92 h n =>
 evAlloc tbx 203 h n fun v93 h n =>
 evStore tbx 203 v93 v92 h n fun _ h n =>
 evLen tbx 205 v84 fun v94 =>
 evBin2 tbx .sub 3 v94 (.i .i64 1) fun v95 =>
 evSlc tbx 205 v84 none (some v95) fun v96 =>
 jp (fun (s97 : VT [3, 4]) h n =>
 pc s97 fun v99 s100 =>
 pc s100 fun v101 s102 =>
 lo2 (v99, v101, ()) h n) fun kk98 =>
 evFa tbx 203 0 v93 fun v103 =>
 evLoad tbx 3 v103 h fun v104 =>
 evBin2 tbx .neq 3 v104 (.i .i64 6) fun v105 =>
 jp (fun (v106 : V) h n =>
 jp (fun (v108 : V) h n =>
 jp (fun (v110 : V) h n =>
 jp (fun (v112 : V) h n =>
 jp (fun (v114 : V) h n =>
 jp (fun (v116 : V) h n =>
 jp (fun (v118 : V) h n =>
 jp (fun (v120 : V) h n =>
 jp (fun (v122 : V) h n =>
 jp (fun (v124 : V) h n =>
 jp (fun (v126 : V) h n =>
 jp (fun (v128 : V) h n =>
 jp (fun (v130 : V) h n =>
 jp (fun (v132 : V) h n =>
 jp (fun (v134 : V) h n =>
 jp (fun (v136 : V) h n =>
 jp (fun (v138 : V) h n =>
 jp (fun (v140 : V) h n =>
 jp (fun (v142 : V) h n =>
 jp (fun (v144 : V) h n =>
 jp (fun (v146 : V) h n =>
 jp (fun (v148 : V) h n =>
 jp (fun (v150 : V) h n =>
 evPick v105 (.b true) v150 fun v152 =>
 brB v152 (
 evLoad tbx 203 v93 h fun v153 =>
 evBuildSl tbx 151 1 [(0, v153)] h n fun v154 h n =>
 evApp tbx 151 151 .ns v154 h n fun v155 h n =>
 kk98 (v155, v96, ()) h n) (
 kk98 (.ns, v96, ()) h n)) fun kk151 =>
 gdB v105 false ((evPick v112 v148 (.b false) fun v => kk151 v h n)) (kk151 (.tp []) h n)) fun kk149 =>
 gdB v112 true ((evPick v130 (.b true) v146 fun v => kk149 v h n)) (kk149 (.tp []) h n)) fun kk147 =>
 gdB v130 false ((evBin2 tbx .eql 3 v144 (.i .i64 10) fun v => kk147 v h n)) (kk147 (.tp []) h n)) fun kk145 =>
 gdB v130 false ((evLoad tbx 3 v142 h fun v => kk145 v h n)) (kk145 (.tp []) h n)) fun kk143 =>
 gdB v130 false ((evFa tbx 203 0 v140 fun v => kk143 v h n)) (kk143 (.tp []) h n)) fun kk141 =>
 gdB v130 false ((evIa tbx 151 v132 v138 fun v => kk141 v h n)) (kk141 (.tp []) h n)) fun kk139 =>
 gdB v130 false ((evBin2 tbx .sub 3 v136 (.i .i64 1) fun v => kk139 v h n)) (kk139 (.tp []) h n)) fun kk137 =>
 gdB v130 false ((evLen tbx 151 v134 fun v => kk137 v h n)) (kk137 (.tp []) h n)) fun kk135 =>
 gdB v130 false (kk135 .ns h n) (kk135 (.tp []) h n)) fun kk133 =>
 gdB v130 false (kk133 .ns h n) (kk133 (.tp []) h n)) fun kk131 =>
 gdB v112 true (kk131 v128 h n) (kk131 (.tp []) h n)) fun kk129 =>
 gdB v112 true ((evBin2 tbx .eql 3 v126 (.i .i64 6) fun v => kk129 v h n)) (kk129 (.tp []) h n)) fun kk127 =>
 gdB v112 true ((evLoad tbx 3 v124 h fun v => kk127 v h n)) (kk127 (.tp []) h n)) fun kk125 =>
 gdB v112 true ((evFa tbx 203 0 v122 fun v => kk125 v h n)) (kk125 (.tp []) h n)) fun kk123 =>
 gdB v112 true ((evIa tbx 151 v114 v120 fun v => kk123 v h n)) (kk123 (.tp []) h n)) fun kk121 =>
 gdB v112 true ((evBin2 tbx .sub 3 v118 (.i .i64 1) fun v => kk121 v h n)) (kk121 (.tp []) h n)) fun kk119 =>
 gdB v112 true ((evLen tbx 151 v116 fun v => kk119 v h n)) (kk119 (.tp []) h n)) fun kk117 =>
 gdB v112 true (kk117 .ns h n) (kk117 (.tp []) h n)) fun kk115 =>
 gdB v112 true (kk115 .ns h n) (kk115 (.tp []) h n)) fun kk113 =>
 gdB v105 false (kk113 v110 h n) (kk113 (.tp []) h n)) fun kk111 =>
 gdB v105 false ((evBin2 tbx .gtr 3 v108 (.i .i64 0) fun v => kk111 v h n)) (kk111 (.tp []) h n)) fun kk109 =>
 gdB v105 false ((evLen tbx 151 v106 fun v => kk109 v h n)) (kk109 (.tp []) h n)) fun kk107 =>
 gdB v105 false (kk107 .ns h n) (kk107 (.tp []) h n))
noncomputable def e89 : FE := ⟨Tryz.f89, bd Tryz.f89, [0], [2], (.q .z (.g 0 [3, 4] [2] (.q .z (.q .z (.q .z (.q (.q .z (.c (.q .z (.q .z .z)) .z)) (.q .z (.q .z (.s [3, 4] (.q .z (.c .z .z)) .z))))))) (.q .z (.q (.q .z (.c (.q .z (.q .z .z)) .z)) (.q .z (.q .z (.s [3, 4] (.q .z (.c .z .z)) .z)))))))⟩
theorem q89 (fu : Nat) (cf : CF) (a0 : V) (h : H) (n : Id) (k : KV) : evF fu cf e89 [a0] h n k = s89 fu cf a0 h n k := by kernel_rfl
theorem p89 : PfOk Tryz.prog tbx mtab 89 (w1 (s89 fuX)) := pfo e89 Tryz.func89 (by kernel_rfl) (w1_ok (q89 fuX))
noncomputable def s90 (fu : Nat) (cf : CF) (a0 : V) (h : H) (n : Id) (k : KV) : R :=
 evBin2 tbx .geq 5 a0 (.i .u8 65) fun v1 =>
 jp (fun (v2 : V) h n =>
 jp (fun (v4 : V) h n =>
 evPick v1 v4 (.b false) fun v6 =>
 jp (fun (v7 : V) h n =>
 jp (fun (v9 : V) h n =>
 jp (fun (v11 : V) h n =>
 jp (fun (v13 : V) h n =>
 jp (fun (v15 : V) h n =>
 jp (fun (v17 : V) h n =>
 evPick v6 (.b true) v17 fun v19 =>
 jp (fun (v20 : V) h n =>
 jp (fun (v22 : V) h n =>
 jp (fun (v24 : V) h n =>
 jp (fun (v26 : V) h n =>
 jp (fun (v28 : V) h n =>
 jp (fun (v30 : V) h n =>
 evPick v19 (.b true) v30 fun v32 =>
 jp (fun (v33 : V) h n =>
 jp (fun (v35 : V) h n =>
 evPick v32 (.b true) v35 fun v37 =>
 jp (fun (v38 : V) h n =>
 jp (fun (v40 : V) h n =>
 evPick v37 (.b true) v40 fun v42 =>
 jp (fun (v43 : V) h n =>
 jp (fun (v45 : V) h n =>
 evPick v42 (.b true) v45 fun v47 =>
 k v47 h n) fun kk46 =>
 gdB v42 false ((evBin2 tbx .eql 5 v43 (.i .u8 46) fun v => kk46 v h n)) (kk46 (.tp []) h n)) fun kk44 =>
 gdB v42 false (kk44 a0 h n) (kk44 (.tp []) h n)) fun kk41 =>
 gdB v37 false ((evBin2 tbx .eql 5 v38 (.i .u8 45) fun v => kk41 v h n)) (kk41 (.tp []) h n)) fun kk39 =>
 gdB v37 false (kk39 a0 h n) (kk39 (.tp []) h n)) fun kk36 =>
 gdB v32 false ((evBin2 tbx .eql 5 v33 (.i .u8 95) fun v => kk36 v h n)) (kk36 (.tp []) h n)) fun kk34 =>
 gdB v32 false (kk34 a0 h n) (kk34 (.tp []) h n)) fun kk31 =>
 gdB v19 false ((evPick v24 v28 (.b false) fun v => kk31 v h n)) (kk31 (.tp []) h n)) fun kk29 =>
 gdB v24 true ((evBin2 tbx .leq 5 v26 (.i .u8 57) fun v => kk29 v h n)) (kk29 (.tp []) h n)) fun kk27 =>
 gdB v24 true (kk27 a0 h n) (kk27 (.tp []) h n)) fun kk25 =>
 gdB v19 false (kk25 v22 h n) (kk25 (.tp []) h n)) fun kk23 =>
 gdB v19 false ((evBin2 tbx .geq 5 v20 (.i .u8 48) fun v => kk23 v h n)) (kk23 (.tp []) h n)) fun kk21 =>
 gdB v19 false (kk21 a0 h n) (kk21 (.tp []) h n)) fun kk18 =>
 gdB v6 false ((evPick v11 v15 (.b false) fun v => kk18 v h n)) (kk18 (.tp []) h n)) fun kk16 =>
 gdB v11 true ((evBin2 tbx .leq 5 v13 (.i .u8 122) fun v => kk16 v h n)) (kk16 (.tp []) h n)) fun kk14 =>
 gdB v11 true (kk14 a0 h n) (kk14 (.tp []) h n)) fun kk12 =>
 gdB v6 false (kk12 v9 h n) (kk12 (.tp []) h n)) fun kk10 =>
 gdB v6 false ((evBin2 tbx .geq 5 v7 (.i .u8 97) fun v => kk10 v h n)) (kk10 (.tp []) h n)) fun kk8 =>
 gdB v6 false (kk8 a0 h n) (kk8 (.tp []) h n)) fun kk5 =>
 gdB v1 true ((evBin2 tbx .leq 5 v2 (.i .u8 90) fun v => kk5 v h n)) (kk5 (.tp []) h n)) fun kk3 =>
 gdB v1 true (kk3 a0 h n) (kk3 (.tp []) h n)
noncomputable def e90 : FE := ⟨Tryz.f90, bd Tryz.f90, [0], [2], (.q .z (.q .z .z))⟩
theorem q90 (fu : Nat) (cf : CF) (a0 : V) (h : H) (n : Id) (k : KV) : evF fu cf e90 [a0] h n k = s90 fu cf a0 h n k := by kernel_rfl
theorem p90 : PfOk Tryz.prog tbx mtab 90 (w1 (s90 fuX)) := pfo e90 Tryz.func90 (by kernel_rfl) (w1_ok (q90 fuX))
noncomputable def s91 (fu : Nat) (cf : CF) (a0 a1 : V) (h : H) (n : Id) (k : KV) : R :=
 cf 136 [a0, a1] h n fun v1 h n =>
 evBin2 tbx .geq 3 v1 (.i .i64 0) fun v2 =>
 k v2 h n
noncomputable def e91 : FE := ⟨Tryz.f91, bd Tryz.f91, [0, 1], [4], (.q .z (.q .z .z))⟩
theorem q91 (fu : Nat) (cf : CF) (a0 a1 : V) (h : H) (n : Id) (k : KV) : evF fu cf e91 [a0, a1] h n k = s91 fu cf a0 a1 h n k := by kernel_rfl
theorem p91 : PfOk Tryz.prog tbx mtab 91 (w2 (s91 fuX)) := pfo e91 Tryz.func91 (by kernel_rfl) (w2_ok (q91 fuX))
noncomputable def s92 (fu : Nat) (cf : CF) (a0 : V) (h : H) (n : Id) (k : KV) : R :=
 evBin2 tbx .lss 5 a0 (.i .u8 33) fun v1 =>
 jp (fun (v2 : V) h n =>
 jp (fun (v4 : V) h n =>
 evPick v1 (.b true) v4 fun v6 =>
 jp (fun (v7 : V) h n =>
 jp (fun (v9 : V) h n =>
 jp (fun (v11 : V) h n =>
 evPick v6 (.b true) v11 fun v13 =>
 k v13 h n) fun kk12 =>
 gdB v6 false ((evBin2 tbx .geq 3 v9 (.i .i64 0) fun v => kk12 v h n)) (kk12 (.tp []) h n)) fun kk10 =>
 gdB v6 false ((cf 93 [(.s 5 392404937004), v7] h n kk10)) (kk10 (.tp []) h n)) fun kk8 =>
 gdB v6 false (kk8 a0 h n) (kk8 (.tp []) h n)) fun kk5 =>
 gdB v1 false ((evBin2 tbx .gtr 5 v2 (.i .u8 126) fun v => kk5 v h n)) (kk5 (.tp []) h n)) fun kk3 =>
 gdB v1 false (kk3 a0 h n) (kk3 (.tp []) h n)
noncomputable def e92 : FE := ⟨Tryz.f92, bd Tryz.f92, [0], [2], (.q .z (.q .z .z))⟩
theorem q92 (fu : Nat) (cf : CF) (a0 : V) (h : H) (n : Id) (k : KV) : evF fu cf e92 [a0] h n k = s92 fu cf a0 h n k := by kernel_rfl
theorem p92 : PfOk Tryz.prog tbx mtab 92 (w1 (s92 fuX)) := pfo e92 Tryz.func92 (by kernel_rfl) (w1_ok (q92 fuX))
noncomputable def s93 (fu : Nat) (cf : CF) (a0 a1 : V) (h : H) (n : Id) (k : KV) : R :=
 cf 137 [a0, a1] h n fun v1 h n =>
 k v1 h n
noncomputable def e93 : FE := ⟨Tryz.f93, bd Tryz.f93, [0, 1], [4], (.q .z (.q .z .z))⟩
theorem q93 (fu : Nat) (cf : CF) (a0 a1 : V) (h : H) (n : Id) (k : KV) : evF fu cf e93 [a0, a1] h n k = s93 fu cf a0 a1 h n k := by kernel_rfl
theorem p93 : PfOk Tryz.prog tbx mtab 93 (w2 (s93 fuX)) := pfo e93 Tryz.func93 (by kernel_rfl) (w2_ok (q93 fuX))
noncomputable def s94 (fu : Nat) (cf : CF) (a0 a1 : V) (h : H) (n : Id) (k : KV) : R :=
 cf 138 [a0, a1] h n fun v1 h n =>
 k v1 h n
noncomputable def e94 : FE := ⟨Tryz.f94, bd Tryz.f94, [0, 1], [4], (.q .z (.q .z .z))⟩
theorem q94 (fu : Nat) (cf : CF) (a0 a1 : V) (h : H) (n : Id) (k : KV) : evF fu cf e94 [a0, a1] h n k = s94 fu cf a0 a1 h n k := by kernel_rfl
theorem p94 : PfOk Tryz.prog tbx mtab 94 (w2 (s94 fuX)) := pfo e94 Tryz.func94 (by kernel_rfl) (w2_ok (q94 fuX))
noncomputable def s95 (fu : Nat) (cf : CF) (a0 : V) (h : H) (n : Id) (k : KV) : R :=
 jp (fun (s3 : VT [2, 3]) h n =>
 pc s3 fun v6 s7 =>
 pc s7 fun v8 s9 =>
 k (.tp [v6, v8]) h n) fun kk1 =>
 jp (lpC [0, 4] (fun lo5 s4 h n =>
 pc s4 fun v10 s11 =>
 pc s11 fun v12 s13 =>
 evNc' v12 fun v14 =>
 evFa tbx 214 0 v14 fun v15 =>
 evLoad tbx 9 v15 h fun v16 =>
 evBin2 tbx .eql 9 v16 (.s 0 0) fun v17 =>
 brB v17 (
 evNc' v12 fun v18 =>
 evFa tbx 214 1 v18 fun v19 =>
 evLoad tbx 155 v19 h fun v20 =>
 k (.tp [v20, (.i .i64 0)]) h n) (
 evNc' v12 fun v21 =>
 evFa tbx 214 0 v21 fun v22 =>
 evLoad tbx 9 v22 h fun v23 =>
 evLen tbx 9 v23 fun v24 =>
 evLen tbx 9 v10 fun v25 =>
 evBin2 tbx .eql 3 v24 v25 fun v26 =>
 cf 141 [v12, v26] h n fun v27 h n =>
 evUn .not v27 fun v28 =>
 brB v28 (
 k (.tp [.ns, (.i .i64 5)]) h n) (
 lo5 (v10, v12, ()) h n))) fu) fun lo2 =>
 jp (fun (s29 : VT [0]) h n =>
 pc s29 fun v31 s32 =>
 evBuild tbx 214 [(0, v31)] fun v33 =>
 evBox v33 h n fun v34 h n =>
 evNc' v34 fun v35 =>
 evFa tbx 214 0 v35 fun v36 =>
 evLoad tbx 9 v36 h fun v37 =>
 evBin2 tbx .eql 9 v37 (.s 0 0) fun v38 =>
 brB v38 (
 evNc' v34 fun v39 =>
 evFa tbx 214 1 v39 fun v40 =>
 evLoad tbx 155 v40 h fun v41 =>
 k (.tp [v41, (.i .i64 0)]) h n) (
 evNc' v34 fun v42 =>
 evFa tbx 214 0 v42 fun v43 =>
 evLoad tbx 9 v43 h fun v44 =>
 evLen tbx 9 v44 fun v45 =>
 evLen tbx 9 v31 fun v46 =>
 evBin2 tbx .eql 3 v45 v46 fun v47 =>
 cf 141 [v34, v47] h n fun v48 h n =>
 evUn .not v48 fun v49 =>
 brB v49 (
 k (.tp [.ns, (.i .i64 5)]) h n) (
 lo2 (v31, v34, ()) h n))) fun kk30 =>
 evLen tbx 9 a0 fun v50 =>
 evBin2 tbx .gtr 3 v50 (.i .i64 20000) fun v51 =>
 brB v51 (
 k (.tp [.ns, (.i .i64 3)]) h n) (
 evConv2 tbx mtab 9 73 a0 h n fun v52 h n =>
 cf 91 [v52, (.fn 139 [])] h n fun v53 h n =>
 brB v53 (
 k (.tp [.ns, (.i .i64 4)]) h n) (
 kk30 (a0, ()) h n))
noncomputable def e95 : FE := ⟨Tryz.f95, bd Tryz.f95, [0], [2, 3], (.q .z (.g 0 [0, 4] [2, 3] (.q (.b [0] (.q .z (.c (.q .z .z) (.q .z (.c (.q .z .z) .z))))) (.q .z (.q .z (.q (.q .z (.c (.q .z .z) .z)) (.q (.q .z (.c (.q .z .z) .z)) .z))))) (.q .z (.q (.q .z (.c (.q .z .z) .z)) (.q (.q .z (.c (.q .z .z) .z)) .z)))))⟩
theorem q95 (fu : Nat) (cf : CF) (a0 : V) (h : H) (n : Id) (k : KV) : evF fu cf e95 [a0] h n k = s95 fu cf a0 h n k := by kernel_rfl
theorem p95 : PfOk Tryz.prog tbx mtab 95 (w1 (s95 fuX)) := pfo e95 Tryz.func95 (by kernel_rfl) (w1_ok (q95 fuX))
noncomputable def s96 (fu : Nat) (cf : CF) (a0 : V) (h : H) (n : Id) (k : KV) : R :=
 jp (fun (s3 : VT [2, 3]) h n =>
 pc s3 fun v6 s7 =>
 pc s7 fun v8 s9 =>
 k (.tp [v6, v8]) h n) fun kk1 =>
 jp (lpC [0, 4, 5] (fun lo5 s4 h n =>
 pc s4 fun v10 s11 =>
 pc s11 fun v12 s13 =>
 pc s13 fun v14 s15 =>
 evLen tbx 155 v10 fun v16 =>
 evBin2 tbx .lss 3 v14 v16 fun v17 =>
 brB v17 (
 evIa tbx 155 v10 v14 fun v18 =>
 evLoad tbx 222 v18 h fun v19 =>
 cf 142 [v12, v19] h n fun v20 h n =>
 evBin2 tbx .neq 33 v20 (.i .i64 0) fun v21 =>
 brB v21 (
 k (.tp [.ns, v20]) h n) (
 evBin2 tbx .add 3 v14 (.i .i64 1) fun v22 =>
 lo5 (v10, v12, v22, ()) h n)) (
 evNc' v12 fun v23 =>
 evFa tbx 219 0 v23 fun v24 =>
 evLoad tbx 114 v24 h fun v25 =>
 evLen tbx 114 v25 fun v26 =>
 evBin2 tbx .eql 3 v26 (.i .i64 0) fun v27 =>
 jp (fun (v28 : V) h n =>
 jp (fun (v30 : V) h n =>
 jp (fun (v32 : V) h n =>
 jp (fun (v34 : V) h n =>
 jp (fun (v36 : V) h n =>
 jp (fun (v38 : V) h n =>
 evPick v27 (.b true) v38 fun v40 =>
 brB v40 (
 k (.tp [.ns, (.i .i64 6)]) h n) (
 evNc' v12 fun v41 =>
 evFa tbx 219 0 v41 fun v42 =>
 evLoad tbx 114 v42 h fun v43 =>
 k (.tp [v43, (.i .i64 0)]) h n)) fun kk39 =>
 gdB v27 false ((evBin2 tbx .gtr 3 v36 (.i .i64 0) fun v => kk39 v h n)) (kk39 (.tp []) h n)) fun kk37 =>
 gdB v27 false ((evLen tbx 149 v34 fun v => kk37 v h n)) (kk37 (.tp []) h n)) fun kk35 =>
 gdB v27 false ((evLoad tbx 149 v32 h fun v => kk35 v h n)) (kk35 (.tp []) h n)) fun kk33 =>
 gdB v27 false ((evFa tbx 219 1 v30 fun v => kk33 v h n)) (kk33 (.tp []) h n)) fun kk31 =>
 gdB v27 false ((evNc' v28 fun v => kk31 v h n)) (kk31 (.tp []) h n)) fun kk29 =>
 gdB v27 false (kk29 v12 h n) (kk29 (.tp []) h n))) fu) fun lo2 =>
 evMkMap h n fun v44 h n =>
 evBuild tbx 219 [(2, v44)] fun v45 =>
 evBox v45 h n fun v46 h n =>
 evLen tbx 155 a0 fun v47 =>
 evBin2 tbx .lss 3 (.i .i64 0) v47 fun v48 =>
 brB v48 (
 evIa tbx 155 a0 (.i .i64 0) fun v49 =>
 evLoad tbx 222 v49 h fun v50 =>
 cf 142 [v46, v50] h n fun v51 h n =>
 evBin2 tbx .neq 33 v51 (.i .i64 0) fun v52 =>
 brB v52 (
 k (.tp [.ns, v51]) h n) (
 evBin2 tbx .add 3 (.i .i64 0) (.i .i64 1) fun v53 =>
 lo2 (a0, v46, v53, ()) h n)) (
 evNc' v46 fun v54 =>
 evFa tbx 219 0 v54 fun v55 =>
 evLoad tbx 114 v55 h fun v56 =>
 evLen tbx 114 v56 fun v57 =>
 evBin2 tbx .eql 3 v57 (.i .i64 0) fun v58 =>
 jp (fun (v59 : V) h n =>
 jp (fun (v61 : V) h n =>
 jp (fun (v63 : V) h n =>
 jp (fun (v65 : V) h n =>
 jp (fun (v67 : V) h n =>
 jp (fun (v69 : V) h n =>
 evPick v58 (.b true) v69 fun v71 =>
 brB v71 (
 k (.tp [.ns, (.i .i64 6)]) h n) (
 evNc' v46 fun v72 =>
 evFa tbx 219 0 v72 fun v73 =>
 evLoad tbx 114 v73 h fun v74 =>
 k (.tp [v74, (.i .i64 0)]) h n)) fun kk70 =>
 gdB v58 false ((evBin2 tbx .gtr 3 v67 (.i .i64 0) fun v => kk70 v h n)) (kk70 (.tp []) h n)) fun kk68 =>
 gdB v58 false ((evLen tbx 149 v65 fun v => kk68 v h n)) (kk68 (.tp []) h n)) fun kk66 =>
 gdB v58 false ((evLoad tbx 149 v63 h fun v => kk66 v h n)) (kk66 (.tp []) h n)) fun kk64 =>
 gdB v58 false ((evFa tbx 219 1 v61 fun v => kk64 v h n)) (kk64 (.tp []) h n)) fun kk62 =>
 gdB v58 false ((evNc' v59 fun v => kk62 v h n)) (kk62 (.tp []) h n)) fun kk60 =>
 gdB v58 false (kk60 v46 h n) (kk60 (.tp []) h n))
noncomputable def e96 : FE := ⟨Tryz.f96, bd Tryz.f96, [0], [2, 3], (.q .z (.g 0 [0, 4, 5] [2, 3] (.q .z (.q .z (.q .z (.q (.q .z (.c (.q (.q .z (.q .z (.c (.q .z .z) .z))) (.q .z .z)) .z)) (.q (.q .z (.c (.q .z .z) .z)) (.q .z .z)))))) (.q .z (.q (.q .z (.c (.q (.q .z (.q .z (.c (.q .z .z) .z))) (.q .z .z)) .z)) (.q (.q .z (.c (.q .z .z) .z)) (.q .z .z))))))⟩
theorem q96 (fu : Nat) (cf : CF) (a0 : V) (h : H) (n : Id) (k : KV) : evF fu cf e96 [a0] h n k = s96 fu cf a0 h n k := by kernel_rfl
theorem p96 : PfOk Tryz.prog tbx mtab 96 (w1 (s96 fuX)) := pfo e96 Tryz.func96 (by kernel_rfl) (w1_ok (q96 fuX))
end Go.Proofs.Nw.X
end
