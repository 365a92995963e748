/- Bundle: NwXN1. -/
import Derived.Test.YtbooikopklijdaaGreatDoorNwN7
set_option linter.constructorNameAsVariable false
set_option linter.unusedVariables false
set_option linter.unusedSimpArgs false
set_option linter.unusedSectionVars false
section
/- printed by xg.py: seat F's functions, 1. -/
open Go Go.RowKit Go.Proofs
set_option linter.unusedVariables false
set_option maxRecDepth 100000
namespace Go.Proofs.Nw.X
open Go.Proofs.Nw.K
noncomputable def s5 (fu : Nat) (cf : CF) (a0 a1 : V) (h : H) (n : Id) (k : KV) : R :=
 evConv2 tbx mtab 3 22 a0 h n fun v1 h n =>
 evBin2 tbx .rem 22 v1 (.i .u64 8) fun v2 =>
 evConv2 tbx mtab 22 3 v2 h n fun v3 h n =>
 evBin2 tbx .add 3 (.i .i64 1) v3 fun v4 =>
 jp (fun (s5 : VT [0, 1, 5]) h n =>
 pc s5 fun v7 s8 =>
 pc s8 fun v9 s10 =>
 pc s10 fun v11 s12 =>
 cf 23 [v11] h n fun v13 h n =>
 evExt 0 v13 fun v14 =>
 evExt 1 v13 fun v15 =>
 evIa tbx 28 v11 (.i .i64 0) fun v16 =>
 evFa tbx 37 0 v16 fun v17 =>
 evLoad tbx 24 v17 h fun v18 =>
 cf 24 [v14, v18] h n fun v19 h n =>
 evExt 0 v19 fun v20 =>
 evExt 1 v19 fun v21 =>
 evAlloc tbx 32 h n fun v22 h n =>
 evStore tbx 32 v22 v20 h n fun _ h n =>
 evBin2 tbx .gtr 3 v7 (.i .i64 5) fun v23 =>
 brB v23 (
 cf 25 [] h n fun v24 h n =>
 jp (fun (v25 : V) h n =>
 jp (fun (v27 : V) h n =>
 evPick v24 v27 (.b false) fun v29 =>
 k v29 h n) fun kk28 =>
 gdB v24 true ((evBin2 tbx .eql 33 v25 (.i .i64 7) fun v => kk28 v h n)) (kk28 (.tp []) h n)) fun kk26 =>
 gdB v24 true (kk26 v21 h n) (kk26 (.tp []) h n)) (
 brB v9 (
 cf 25 [] h n fun v30 h n =>
 jp (fun (v31 : V) h n =>
 jp (fun (v33 : V) h n =>
 evPick v30 v33 (.b false) fun v35 =>
 k v35 h n) fun kk34 =>
 gdB v30 true ((evBin2 tbx .eql 33 v31 (.i .i64 16) fun v => kk34 v h n)) (kk34 (.tp []) h n)) fun kk32 =>
 gdB v30 true (kk32 v21 h n) (kk32 (.tp []) h n)) (
 evBin2 tbx .neq 33 v21 (.i .i64 0) fun v36 =>
 jp (fun (v37 : V) h n =>
 jp (fun (v39 : V) h n =>
 jp (fun (v41 : V) h n =>
 jp (fun (v43 : V) h n =>
 jp (fun (v45 : V) h n =>
 jp (fun (v47 : V) h n =>
 evPick v36 (.b true) v47 fun v49 =>
 jp (fun (v50 : V) h n =>
 jp (fun (v52 : V) h n =>
 jp (fun (v54 : V) h n =>
 jp (fun (v56 : V) h n =>
 jp (fun (v58 : V) h n =>
 jp (fun (v60 : V) h n =>
 evPick v49 (.b true) v60 fun v62 =>
 brB v62 (
 k (.b false) h n) (
 jp (fun (s63 : VT []) h n =>
 cf 25 [] h n fun v65 h n =>
 k v65 h n) fun kk64 =>
 lpC [0, 13, 15] (fun lo67 s66 h n =>
 pc s66 fun v68 s69 =>
 pc s69 fun v70 s71 =>
 pc s71 fun v72 s73 =>
 evBin2 tbx .lss 3 v72 v68 fun v74 =>
 brB v74 (
 jp (fun (s75 : VT [0, 13, 15]) h n =>
 pc s75 fun v77 s78 =>
 pc s78 fun v79 s80 =>
 pc s80 fun v81 s82 =>
 evBin2 tbx .add 3 v81 (.i .i64 1) fun v83 =>
 lo67 (v77, v79, v83, ()) h n) fun kk76 =>
 evFa tbx 32 6 v70 fun v84 =>
 evLoad tbx 30 v84 h fun v85 =>
 evBin2 tbx .add 3 v72 (.i .i64 1) fun v86 =>
 evIa tbx 30 v85 v86 fun v87 =>
 evFa tbx 51 1 v87 fun v88 =>
 evLoad tbx 9 v88 h fun v89 =>
 evLoad tbx 30 v84 h fun w96 => cond (eqV 6 w96 v85) (
 evLoad tbx 9 v88 h fun w95 => cond (eqV 6 w95 v89) (
 cf 16 [v72] h n fun v90 h n =>
 evBin2 tbx .add 9 (.s 4 1869507705) v90 fun v91 =>
 evBin2 tbx .neq 9 v89 v91 fun v92 =>
 evLoad tbx 30 v84 h fun w94 => cond (eqV 6 w94 v85) (
 evLoad tbx 9 v88 h fun w93 => cond (eqV 6 w93 v89) (
 brB v92 (
 k (.b false) h n) (
 kk76 (v68, v70, v72, ()) h n)) none) none) none) none) (
 kk64 (()) h n)) fu (v7, v22, (.i .i64 0), ()) h n)) fun kk61 =>
 gdB v49 false ((evBin2 tbx .neq 9 v58 (.s 1 49) fun v => kk61 v h n)) (kk61 (.tp []) h n)) fun kk59 =>
 gdB v49 false ((evLoad tbx 9 v56 h fun v => kk59 v h n)) (kk59 (.tp []) h n)) fun kk57 =>
 gdB v49 false ((evFa tbx 51 2 v54 fun v => kk57 v h n)) (kk57 (.tp []) h n)) fun kk55 =>
 gdB v49 false ((evIa tbx 30 v52 (.i .i64 0) fun v => kk55 v h n)) (kk55 (.tp []) h n)) fun kk53 =>
 gdB v49 false ((evLoad tbx 30 v50 h fun v => kk53 v h n)) (kk53 (.tp []) h n)) fun kk51 =>
 gdB v49 false ((evFa tbx 32 6 v22 fun v => kk51 v h n)) (kk51 (.tp []) h n)) fun kk48 =>
 gdB v36 false ((evBin2 tbx .neq 3 v41 v45 fun v => kk48 v h n)) (kk48 (.tp []) h n)) fun kk46 =>
 gdB v36 false ((evBin2 tbx .add 3 v43 (.i .i64 1) fun v => kk46 v h n)) (kk46 (.tp []) h n)) fun kk44 =>
 gdB v36 false (kk44 v7 h n) (kk44 (.tp []) h n)) fun kk42 =>
 gdB v36 false ((evLen tbx 30 v39 fun v => kk42 v h n)) (kk42 (.tp []) h n)) fun kk40 =>
 gdB v36 false ((evLoad tbx 30 v37 h fun v => kk40 v h n)) (kk40 (.tp []) h n)) fun kk38 =>
 gdB v36 false ((evFa tbx 32 6 v22 fun v => kk38 v h n)) (kk38 (.tp []) h n)))) fun kk6 =>
 lpC [0, 1, 5, 6] (fun lo98 s97 h n =>
 pc s97 fun v99 s100 =>
 pc s100 fun v101 s102 =>
 pc s102 fun v103 s104 =>
 pc s104 fun v105 s106 =>
 evBin2 tbx .lss 3 v105 v99 fun v107 =>
 brB v107 (
 jp (fun (s108 : VT [0, 1, 5, 6]) h n =>
 pc s108 fun v110 s111 =>
 pc s111 fun v112 s113 =>
 pc s113 fun v114 s115 =>
 pc s115 fun v116 s117 =>
 evBin2 tbx .add 3 v116 (.i .i64 1) fun v118 =>
 lo98 (v110, v112, v114, v118, ()) h n) fun kk109 =>
 cf 16 [v105] h n fun v119 h n =>
 evBin2 tbx .add 9 (.s 1 112) v119 fun v120 =>
 evBin2 tbx .add 3 v105 (.i .i64 1) fun v121 =>
 cf 16 [v121] h n fun v122 h n =>
 evBuild tbx 51 [(0, (.s 1 103)), (1, (.s 3 6384748)), (2, v122)] fun v123 =>
 cf 16 [v105] h n fun v124 h n =>
 evBin2 tbx .add 9 (.s 4 1869507705) v124 fun v125 =>
 evBuild tbx 51 [(0, (.s 1 103)), (1, v125), (2, (.s 1 49))] fun v126 =>
 evBuildSl tbx 30 2 [(0, v123), (1, v126)] h n fun v127 h n =>
 evBuild tbx 32 [(1, (.s 1 103)), (2, v120), (3, (.s 1 49)), (6, v127)] fun v128 =>
 evAlloc tbx 32 h n fun v129 h n =>
 evStore tbx 32 v129 v128 h n fun _ h n =>
 jp (fun (s130 : VT [0, 1, 5, 6, 7, 8]) h n =>
 pc s130 fun v132 s133 =>
 pc s133 fun v134 s135 =>
 pc s135 fun v136 s137 =>
 pc s137 fun v138 s139 =>
 pc s139 fun v140 s141 =>
 pc s141 fun v142 s143 =>
 evLoad tbx 32 v142 h fun v144 =>
 cf 18 [v144] h n fun v145 h n =>
 evExt 0 v145 fun v146 =>
 evExt 1 v145 fun v147 =>
 evBuild tbx 24 [(0, (.s 1 103)), (1, v140), (2, (.s 1 49))] fun v148 =>
 evBuild tbx 37 [(0, v148), (1, v146)] fun v149 =>
 evBuildSl tbx 28 1 [(0, v149)] h n fun v150 h n =>
 evApp tbx 28 28 v136 v150 h n fun v151 h n =>
 kk109 (v132, v134, v151, v138, ()) h n) fun kk131 =>
 evBin2 tbx .sub 3 v99 (.i .i64 1) fun v152 =>
 evBin2 tbx .lss 3 v105 v152 fun v153 =>
 brB v153 (
 evFa tbx 32 6 v129 fun v154 =>
 evLoad tbx 30 v154 h fun v155 =>
 evBin2 tbx .add 3 v105 (.i .i64 1) fun v156 =>
 evLoad tbx 30 v154 h fun w165 => cond (eqV 6 w165 v155) (
 cf 16 [v156] h n fun v157 h n =>
 evBin2 tbx .add 9 (.s 1 112) v157 fun v158 =>
 evBuild tbx 51 [(0, (.s 1 103)), (1, v158), (2, (.s 1 49)), (3, (.s 3 7368557)), (5, (.s 6 115918758703732))] fun v159 =>
 evLoad tbx 30 v154 h fun w164 => cond (eqV 6 w164 v155) (
 evBuildSl tbx 30 1 [(0, v159)] h n fun v160 h n =>
 evLoad tbx 30 v154 h fun w163 => cond (eqV 6 w163 v155) (
 evApp tbx 30 30 v155 v160 h n fun v161 h n =>
 evFa tbx 32 6 v129 fun v162 =>
 evStore tbx 30 v162 v161 h n fun _ h n =>
 kk131 (v99, v101, v103, v105, v120, v129, ()) h n) none) none) none) (
 brB v101 (
 evFa tbx 32 6 v129 fun v166 =>
 evLoad tbx 30 v166 h fun v167 =>
 evBuild tbx 51 [(0, (.s 1 103)), (1, (.s 2 28720)), (2, (.s 1 49)), (3, (.s 3 7368557)), (5, (.s 6 115918758703732))] fun v168 =>
 evBuildSl tbx 30 1 [(0, v168)] h n fun v169 h n =>
 evApp tbx 30 30 v167 v169 h n fun v170 h n =>
 evFa tbx 32 6 v129 fun v171 =>
 evStore tbx 30 v171 v170 h n fun _ h n =>
 kk131 (v99, v101, v103, v105, v120, v129, ()) h n) (
 kk131 (v99, v101, v103, v105, v120, v129, ()) h n))) (
 kk6 (v99, v101, v103, ()) h n)) fu (v4, a1, .ns, (.i .i64 0), ()) h n
noncomputable def e5 : FE := ⟨Tryz.f5, bd Tryz.f5, [0, 1], [4], (.q .z (.q .z (.q .z (.q (.q .z (.b [0, 1, 5] (.l [0, 1, 5, 6] (.q (.q .z (.c .z .z)) (.q (.b [0, 1, 5, 6] (.q .z (.q .z (.s [0, 1, 5, 6, 7, 8] (.q .z (.c .z (.q .z (.c .z .z)))) (.q .z .z))))) .z))))) (.q .z (.q .z (.q (.q .z (.c (.q .z .z) .z)) (.q (.q .z (.c (.q .z .z) .z)) (.q (.q .z (.c (.q .z .z) .z)) (.q (.q .z (.b [] (.l [0, 13, 15] (.q (.q .z (.c .z .z)) (.q (.b [0, 13, 15] (.q .z (.c (.q .z .z) .z))) .z))))) (.q .z .z)))))))))))⟩
theorem q5 (fu : Nat) (cf : CF) (a0 a1 : V) (h : H) (n : Id) (k : KV) : evF fu cf e5 [a0, a1] h n k = s5 fu cf a0 a1 h n k := by kernel_rfl
theorem p5 : PfOk Tryz.prog tbx mtab 5 (w2 (s5 fuX)) := pfo e5 Tryz.func5 (by kernel_rfl) (w2_ok (q5 fuX))
noncomputable def s6 (fu : Nat) (cf : CF) (a0 a1 a2 : V) (h : H) (n : Id) (k : KV) : R :=
 evConv2 tbx mtab 3 22 a2 h n fun v1 h n =>
 evBin2 tbx .rem 22 v1 (.i .u64 100) fun v2 =>
 evConv2 tbx mtab 22 3 v2 h n fun v3 h n =>
 evBin2 tbx .add 3 (.i .i64 1) v3 fun v4 =>
 cf 16 [v4] h n fun v5 h n =>
 evBuild tbx 57 [(0, (.s 1 118)), (1, v5)] fun v6 =>
 evBuildSl tbx 29 1 [(0, v6)] h n fun v7 h n =>
 evBuild tbx 51 [(0, (.s 1 103)), (1, (.s 1 98)), (2, (.s 4 612071037))] fun v8 =>
 evBuildSl tbx 30 1 [(0, v8)] h n fun v9 h n =>
 evBuild tbx 51 [(0, (.s 1 103)), (1, (.s 1 99)), (2, (.s 1 57))] fun v10 =>
 evBuildSl tbx 30 1 [(0, v10)] h n fun v11 h n =>
 evBuild tbx 32 [(1, (.s 1 103)), (2, (.s 2 30064)), (3, (.s 1 49)), (5, v7), (6, v9), (7, v11)] fun v12 =>
 evAlloc tbx 32 h n fun v13 h n =>
 evStore tbx 32 v13 v12 h n fun _ h n =>
 evBuild tbx 24 [(0, (.s 1 103)), (1, (.s 2 30064)), (2, (.s 1 49))] fun v14 =>
 evBuild tbx 51 [(0, (.s 1 103)), (1, (.s 1 98))] fun v15 =>
 evBuildSl tbx 30 1 [(0, v15)] h n fun v16 h n =>
 evBuild tbx 32 [(2, (.s 1 97)), (0, v14), (7, v16)] fun v17 =>
 evAlloc tbx 32 h n fun v18 h n =>
 evStore tbx 32 v18 v17 h n fun _ h n =>
 jp (fun (s19 : VT [1, 8, 9, 10]) h n =>
 pc s19 fun v21 s22 =>
 pc s22 fun v23 s24 =>
 pc s24 fun v25 s26 =>
 pc s26 fun v27 s28 =>
 jp (fun (s29 : VT [8, 9, 10]) h n =>
 pc s29 fun v31 s32 =>
 pc s32 fun v33 s34 =>
 pc s34 fun v35 s36 =>
 evLoad tbx 32 v33 h fun v37 =>
 cf 18 [v37] h n fun v38 h n =>
 evExt 0 v38 fun v39 =>
 evExt 1 v38 fun v40 =>
 evLoad tbx 32 v31 h fun v41 =>
 cf 18 [v41] h n fun v42 h n =>
 evExt 0 v42 fun v43 =>
 evExt 1 v42 fun v44 =>
 evBuild tbx 24 [(0, (.s 1 103)), (1, (.s 1 97)), (2, (.s 1 49))] fun v45 =>
 evAlloc tbx 24 h n fun v46 h n =>
 evStore tbx 24 v46 v45 h n fun _ h n =>
 evLoad tbx 24 v46 h fun v47 =>
 evBuild tbx 37 [(0, v47), (1, v39)] fun v48 =>
 evFa tbx 32 0 v33 fun v49 =>
 evLoad tbx 24 v49 h fun v50 =>
 evBuild tbx 37 [(0, v50), (1, v43)] fun v51 =>
 evBuildSl tbx 28 2 [(0, v48), (1, v51)] h n fun v52 h n =>
 cf 23 [v52] h n fun v53 h n =>
 evExt 0 v53 fun v54 =>
 evExt 1 v53 fun v55 =>
 evLoad tbx 24 v46 h fun v56 =>
 cf 24 [v54, v56] h n fun v57 h n =>
 evExt 0 v57 fun v58 =>
 evExt 1 v57 fun v59 =>
 evAlloc tbx 32 h n fun v60 h n =>
 evStore tbx 32 v60 v58 h n fun _ h n =>
 cf 25 [] h n fun v61 h n =>
 jp (fun (v62 : V) h n =>
 jp (fun (v64 : V) h n =>
 evPick v61 v64 (.b false) fun v66 =>
 jp (fun (v67 : V) h n =>
 jp (fun (v69 : V) h n =>
 jp (fun (v71 : V) h n =>
 jp (fun (v73 : V) h n =>
 evPick v66 v73 (.b false) fun v75 =>
 jp (fun (v76 : V) h n =>
 jp (fun (v78 : V) h n =>
 jp (fun (v80 : V) h n =>
 jp (fun (v82 : V) h n =>
 jp (fun (v84 : V) h n =>
 jp (fun (v86 : V) h n =>
 jp (fun (v88 : V) h n =>
 evPick v75 v88 (.b false) fun v90 =>
 jp (fun (v91 : V) h n =>
 jp (fun (v93 : V) h n =>
 jp (fun (v95 : V) h n =>
 jp (fun (v97 : V) h n =>
 jp (fun (v99 : V) h n =>
 jp (fun (v101 : V) h n =>
 evPick v90 v101 (.b false) fun v103 =>
 jp (fun (v104 : V) h n =>
 jp (fun (v106 : V) h n =>
 jp (fun (v108 : V) h n =>
 evPick v103 v108 (.b false) fun v110 =>
 jp (fun (v111 : V) h n =>
 jp (fun (v113 : V) h n =>
 jp (fun (v115 : V) h n =>
 evPick v110 v115 (.b false) fun v117 =>
 jp (fun (v118 : V) h n =>
 jp (fun (v120 : V) h n =>
 jp (fun (v122 : V) h n =>
 jp (fun (v124 : V) h n =>
 jp (fun (v126 : V) h n =>
 jp (fun (v128 : V) h n =>
 evPick v117 v128 (.b false) fun v130 =>
 k v130 h n) fun kk129 =>
 gdB v117 true ((evBin2 tbx .eql 9 v126 (.s 7 27988538522430565) fun v => kk129 v h n)) (kk129 (.tp []) h n)) fun kk127 =>
 gdB v117 true ((evLoad tbx 9 v124 h fun v => kk127 v h n)) (kk127 (.tp []) h n)) fun kk125 =>
 gdB v117 true ((evFa tbx 51 5 v122 fun v => kk125 v h n)) (kk125 (.tp []) h n)) fun kk123 =>
 gdB v117 true ((evIa tbx 30 v120 (.i .i64 0) fun v => kk123 v h n)) (kk123 (.tp []) h n)) fun kk121 =>
 gdB v117 true ((evLoad tbx 30 v118 h fun v => kk121 v h n)) (kk121 (.tp []) h n)) fun kk119 =>
 gdB v117 true ((evFa tbx 32 7 v60 fun v => kk119 v h n)) (kk119 (.tp []) h n)) fun kk116 =>
 gdB v110 true ((evBin2 tbx .eql 9 v113 (.s 1 49) fun v => kk116 v h n)) (kk116 (.tp []) h n)) fun kk114 =>
 gdB v110 true ((evLoad tbx 9 v111 h fun v => kk114 v h n)) (kk114 (.tp []) h n)) fun kk112 =>
 gdB v110 true ((evFa tbx 32 3 v60 fun v => kk112 v h n)) (kk112 (.tp []) h n)) fun kk109 =>
 gdB v103 true ((evBin2 tbx .eql 9 v106 (.s 1 103) fun v => kk109 v h n)) (kk109 (.tp []) h n)) fun kk107 =>
 gdB v103 true ((evLoad tbx 9 v104 h fun v => kk107 v h n)) (kk107 (.tp []) h n)) fun kk105 =>
 gdB v103 true ((evFa tbx 32 1 v60 fun v => kk105 v h n)) (kk105 (.tp []) h n)) fun kk102 =>
 gdB v90 true ((evBin2 tbx .eql 9 v99 (.s 1 99) fun v => kk102 v h n)) (kk102 (.tp []) h n)) fun kk100 =>
 gdB v90 true ((evLoad tbx 9 v97 h fun v => kk100 v h n)) (kk100 (.tp []) h n)) fun kk98 =>
 gdB v90 true ((evFa tbx 51 1 v95 fun v => kk98 v h n)) (kk98 (.tp []) h n)) fun kk96 =>
 gdB v90 true ((evIa tbx 30 v93 (.i .i64 1) fun v => kk96 v h n)) (kk96 (.tp []) h n)) fun kk94 =>
 gdB v90 true ((evLoad tbx 30 v91 h fun v => kk94 v h n)) (kk94 (.tp []) h n)) fun kk92 =>
 gdB v90 true ((evFa tbx 32 7 v60 fun v => kk92 v h n)) (kk92 (.tp []) h n)) fun kk89 =>
 gdB v75 true ((evBin2 tbx .eql 9 v84 v86 fun v => kk89 v h n)) (kk89 (.tp []) h n)) fun kk87 =>
 gdB v75 true (kk87 v35 h n) (kk87 (.tp []) h n)) fun kk85 =>
 gdB v75 true ((evLoad tbx 9 v82 h fun v => kk85 v h n)) (kk85 (.tp []) h n)) fun kk83 =>
 gdB v75 true ((evFa tbx 51 2 v80 fun v => kk83 v h n)) (kk83 (.tp []) h n)) fun kk81 =>
 gdB v75 true ((evIa tbx 30 v78 (.i .i64 0) fun v => kk81 v h n)) (kk81 (.tp []) h n)) fun kk79 =>
 gdB v75 true ((evLoad tbx 30 v76 h fun v => kk79 v h n)) (kk79 (.tp []) h n)) fun kk77 =>
 gdB v75 true ((evFa tbx 32 7 v60 fun v => kk77 v h n)) (kk77 (.tp []) h n)) fun kk74 =>
 gdB v66 true ((evBin2 tbx .eql 3 v71 (.i .i64 2) fun v => kk74 v h n)) (kk74 (.tp []) h n)) fun kk72 =>
 gdB v66 true ((evLen tbx 30 v69 fun v => kk72 v h n)) (kk72 (.tp []) h n)) fun kk70 =>
 gdB v66 true ((evLoad tbx 30 v67 h fun v => kk70 v h n)) (kk70 (.tp []) h n)) fun kk68 =>
 gdB v66 true ((evFa tbx 32 7 v60 fun v => kk68 v h n)) (kk68 (.tp []) h n)) fun kk65 =>
 gdB v61 true ((evBin2 tbx .eql 33 v62 (.i .i64 0) fun v => kk65 v h n)) (kk65 (.tp []) h n)) fun kk63 =>
 gdB v61 true (kk63 v59 h n) (kk63 (.tp []) h n)) fun kk30 =>
 brB v21 (
 evFa tbx 32 7 v25 fun v131 =>
 evLoad tbx 30 v131 h fun v132 =>
 evIa tbx 30 v132 (.i .i64 0) fun v133 =>
 evFa tbx 51 2 v133 fun v134 =>
 evStore tbx 9 v134 (.s 1 56) h n fun _ h n =>
 kk30 (v23, v25, (.s 1 56), ()) h n) (
 kk30 (v23, v25, v27, ()) h n)) fun kk20 =>
 brB a0 (
 evBuild tbx 57 [(0, (.s 1 118)), (1, (.s 3 7305070))] fun v135 =>
 evBuildSl tbx 29 1 [(0, v135)] h n fun v136 h n =>
 evFa tbx 32 5 v18 fun v137 =>
 evStore tbx 29 v137 v136 h n fun _ h n =>
 kk20 (a1, v13, v18, (.s 3 7305070), ()) h n) (
 kk20 (a1, v13, v18, v5, ()) h n)
noncomputable def e6 : FE := ⟨Tryz.f6, bd Tryz.f6, [0, 1, 2], [6], (.q .z (.q .z (.q .z (.q .z (.q .z (.s [1, 8, 9, 10] (.q .z (.c (.q .z .z) .z)) (.s [8, 9, 10] (.q .z (.c (.q .z .z) .z)) (.q .z (.q .z (.q .z (.q .z (.q .z (.q .z .z)))))))))))))⟩
theorem q6 (fu : Nat) (cf : CF) (a0 a1 a2 : V) (h : H) (n : Id) (k : KV) : evF fu cf e6 [a0, a1, a2] h n k = s6 fu cf a0 a1 a2 h n k := by kernel_rfl
theorem p6 : PfOk Tryz.prog tbx mtab 6 (w3 (s6 fuX)) := pfo e6 Tryz.func6 (by kernel_rfl) (w3_ok (q6 fuX))
noncomputable def s8 (fu : Nat) (cf : CF) (a0 a1 : V) (h : H) (n : Id) (k : KV) : R :=
 evConv2 tbx mtab 3 22 a0 h n fun v1 h n =>
 evBin2 tbx .rem 22 v1 (.i .u64 100) fun v2 =>
 evConv2 tbx mtab 22 3 v2 h n fun v3 h n =>
 evBin2 tbx .add 3 (.i .i64 1) v3 fun v4 =>
 cf 16 [v4] h n fun v5 h n =>
 evCall cf (.fn 26 []) [(.s 15 583858270104738274456757006937114980)] h n fun v6 h n =>
 evBin2 tbx .add 9 v6 (.s 2 11896) fun v7 =>
 evCall cf (.fn 26 []) [(.s 18 9795516310933536653999961122899636987906404)] h n fun v8 h n =>
 evBin2 tbx .add 9 v8 (.s 2 11641) fun v9 =>
 evCall cf (.fn 26 []) [(.s 15 583858270104738274460964850787512174)] h n fun v10 h n =>
 evBuild tbx 51 [(0, v7), (1, v9), (2, v10)] fun v11 =>
 evAlloc tbx 51 h n fun v12 h n =>
 evStore tbx 51 v12 v11 h n fun _ h n =>
 evBuild tbx 32 [(1, (.s 1 103)), (2, (.s 1 97)), (3, v5)] fun v13 =>
 evAlloc tbx 32 h n fun v14 h n =>
 evStore tbx 32 v14 v13 h n fun _ h n =>
 evBuild tbx 32 [(1, (.s 1 103)), (2, (.s 2 30064)), (3, (.s 1 55))] fun v15 =>
 evAlloc tbx 32 h n fun v16 h n =>
 evStore tbx 32 v16 v15 h n fun _ h n =>
 jp (fun (s17 : VT [5, 8, 9]) h n =>
 pc s17 fun v19 s20 =>
 pc s20 fun v21 s22 =>
 pc s22 fun v23 s24 =>
 evLoad tbx 32 v21 h fun v25 =>
 cf 18 [v25] h n fun v26 h n =>
 evExt 0 v26 fun v27 =>
 evExt 1 v26 fun v28 =>
 evLoad tbx 32 v23 h fun v29 =>
 cf 18 [v29] h n fun v30 h n =>
 evExt 0 v30 fun v31 =>
 evExt 1 v30 fun v32 =>
 evBuild tbx 24 [(0, (.s 1 103)), (1, (.s 1 97)), (2, v19)] fun v33 =>
 evAlloc tbx 24 h n fun v34 h n =>
 evStore tbx 24 v34 v33 h n fun _ h n =>
 evLoad tbx 24 v34 h fun v35 =>
 evBuild tbx 37 [(0, v35), (1, v27)] fun v36 =>
 evBuild tbx 24 [(0, (.s 1 103)), (1, (.s 2 30064)), (2, (.s 1 55))] fun v37 =>
 evBuild tbx 37 [(0, v37), (1, v31)] fun v38 =>
 evBuildSl tbx 28 2 [(0, v36), (1, v38)] h n fun v39 h n =>
 cf 23 [v39] h n fun v40 h n =>
 evExt 0 v40 fun v41 =>
 evExt 1 v40 fun v42 =>
 evLoad tbx 24 v34 h fun v43 =>
 cf 24 [v41, v43] h n fun v44 h n =>
 evExt 0 v44 fun v45 =>
 evExt 1 v44 fun v46 =>
 evAlloc tbx 32 h n fun v47 h n =>
 evStore tbx 32 v47 v45 h n fun _ h n =>
 cf 25 [] h n fun v48 h n =>
 jp (fun (v49 : V) h n =>
 jp (fun (v51 : V) h n =>
 evPick v48 v51 (.b false) fun v53 =>
 jp (fun (v54 : V) h n =>
 jp (fun (v56 : V) h n =>
 jp (fun (v58 : V) h n =>
 jp (fun (v60 : V) h n =>
 evPick v53 v60 (.b false) fun v62 =>
 jp (fun (v63 : V) h n =>
 jp (fun (v65 : V) h n =>
 jp (fun (v67 : V) h n =>
 jp (fun (v69 : V) h n =>
 jp (fun (v71 : V) h n =>
 jp (fun (v73 : V) h n =>
 evPick v62 v73 (.b false) fun v75 =>
 jp (fun (v76 : V) h n =>
 jp (fun (v78 : V) h n =>
 jp (fun (v80 : V) h n =>
 jp (fun (v82 : V) h n =>
 jp (fun (v84 : V) h n =>
 jp (fun (v86 : V) h n =>
 evPick v75 v86 (.b false) fun v88 =>
 jp (fun (v89 : V) h n =>
 jp (fun (v91 : V) h n =>
 jp (fun (v93 : V) h n =>
 jp (fun (v95 : V) h n =>
 jp (fun (v97 : V) h n =>
 jp (fun (v99 : V) h n =>
 jp (fun (v101 : V) h n =>
 evPick v88 v101 (.b false) fun v103 =>
 jp (fun (v104 : V) h n =>
 jp (fun (v106 : V) h n =>
 jp (fun (v108 : V) h n =>
 jp (fun (v110 : V) h n =>
 jp (fun (v112 : V) h n =>
 jp (fun (v114 : V) h n =>
 evPick v103 v114 (.b false) fun v116 =>
 k v116 h n) fun kk115 =>
 gdB v103 true ((evBin2 tbx .eql 9 v112 (.s 3 6971762) fun v => kk115 v h n)) (kk115 (.tp []) h n)) fun kk113 =>
 gdB v103 true ((evLoad tbx 9 v110 h fun v => kk113 v h n)) (kk113 (.tp []) h n)) fun kk111 =>
 gdB v103 true ((evFa tbx 51 3 v108 fun v => kk111 v h n)) (kk111 (.tp []) h n)) fun kk109 =>
 gdB v103 true ((evIa tbx 30 v106 (.i .i64 0) fun v => kk109 v h n)) (kk109 (.tp []) h n)) fun kk107 =>
 gdB v103 true ((evLoad tbx 30 v104 h fun v => kk107 v h n)) (kk107 (.tp []) h n)) fun kk105 =>
 gdB v103 true ((evFa tbx 32 7 v47 fun v => kk105 v h n)) (kk105 (.tp []) h n)) fun kk102 =>
 gdB v88 true ((evBin2 tbx .eql 9 v97 v99 fun v => kk102 v h n)) (kk102 (.tp []) h n)) fun kk100 =>
 gdB v88 true (kk100 v19 h n) (kk100 (.tp []) h n)) fun kk98 =>
 gdB v88 true ((evLoad tbx 9 v95 h fun v => kk98 v h n)) (kk98 (.tp []) h n)) fun kk96 =>
 gdB v88 true ((evFa tbx 51 2 v93 fun v => kk96 v h n)) (kk96 (.tp []) h n)) fun kk94 =>
 gdB v88 true ((evIa tbx 30 v91 (.i .i64 0) fun v => kk94 v h n)) (kk94 (.tp []) h n)) fun kk92 =>
 gdB v88 true ((evLoad tbx 30 v89 h fun v => kk92 v h n)) (kk92 (.tp []) h n)) fun kk90 =>
 gdB v88 true ((evFa tbx 32 7 v47 fun v => kk90 v h n)) (kk90 (.tp []) h n)) fun kk87 =>
 gdB v75 true ((evBin2 tbx .eql 9 v84 (.s 3 6368633) fun v => kk87 v h n)) (kk87 (.tp []) h n)) fun kk85 =>
 gdB v75 true ((evLoad tbx 9 v82 h fun v => kk85 v h n)) (kk85 (.tp []) h n)) fun kk83 =>
 gdB v75 true ((evFa tbx 51 1 v80 fun v => kk83 v h n)) (kk83 (.tp []) h n)) fun kk81 =>
 gdB v75 true ((evIa tbx 30 v78 (.i .i64 0) fun v => kk81 v h n)) (kk81 (.tp []) h n)) fun kk79 =>
 gdB v75 true ((evLoad tbx 30 v76 h fun v => kk79 v h n)) (kk79 (.tp []) h n)) fun kk77 =>
 gdB v75 true ((evFa tbx 32 7 v47 fun v => kk77 v h n)) (kk77 (.tp []) h n)) fun kk74 =>
 gdB v62 true ((evBin2 tbx .eql 9 v71 (.s 3 6762104) fun v => kk74 v h n)) (kk74 (.tp []) h n)) fun kk72 =>
 gdB v62 true ((evLoad tbx 9 v69 h fun v => kk72 v h n)) (kk72 (.tp []) h n)) fun kk70 =>
 gdB v62 true ((evFa tbx 51 0 v67 fun v => kk70 v h n)) (kk70 (.tp []) h n)) fun kk68 =>
 gdB v62 true ((evIa tbx 30 v65 (.i .i64 0) fun v => kk68 v h n)) (kk68 (.tp []) h n)) fun kk66 =>
 gdB v62 true ((evLoad tbx 30 v63 h fun v => kk66 v h n)) (kk66 (.tp []) h n)) fun kk64 =>
 gdB v62 true ((evFa tbx 32 7 v47 fun v => kk64 v h n)) (kk64 (.tp []) h n)) fun kk61 =>
 gdB v53 true ((evBin2 tbx .eql 3 v58 (.i .i64 1) fun v => kk61 v h n)) (kk61 (.tp []) h n)) fun kk59 =>
 gdB v53 true ((evLen tbx 30 v56 fun v => kk59 v h n)) (kk59 (.tp []) h n)) fun kk57 =>
 gdB v53 true ((evLoad tbx 30 v54 h fun v => kk57 v h n)) (kk57 (.tp []) h n)) fun kk55 =>
 gdB v53 true ((evFa tbx 32 7 v47 fun v => kk55 v h n)) (kk55 (.tp []) h n)) fun kk52 =>
 gdB v48 true ((evBin2 tbx .eql 33 v49 (.i .i64 0) fun v => kk52 v h n)) (kk52 (.tp []) h n)) fun kk50 =>
 gdB v48 true (kk50 v46 h n) (kk50 (.tp []) h n)) fun kk18 =>
 brB a1 (
 evBuild tbx 24 [(0, (.s 1 103)), (1, (.s 2 30064)), (2, (.s 1 55))] fun v117 =>
 evFa tbx 32 0 v14 fun v118 =>
 evStore tbx 24 v118 v117 h n fun _ h n =>
 evLoad tbx 51 v12 h fun v119 =>
 evBuildSl tbx 30 1 [(0, v119)] h n fun v120 h n =>
 evFa tbx 32 7 v16 fun v121 =>
 evStore tbx 30 v121 v120 h n fun _ h n =>
 kk18 (v5, v14, v16, ()) h n) (
 evLoad tbx 51 v12 h fun v122 =>
 evBuildSl tbx 30 1 [(0, v122)] h n fun v123 h n =>
 evFa tbx 32 7 v14 fun v124 =>
 evStore tbx 30 v124 v123 h n fun _ h n =>
 kk18 (v5, v14, v16, ()) h n)
noncomputable def e8 : FE := ⟨Tryz.f8, bd Tryz.f8, [0, 1], [4], (.q .z (.q .z (.q .z (.q .z (.q .z (.q .z (.s [5, 8, 9] (.q .z (.c (.q .z .z) .z)) (.q .z (.q .z (.q .z (.q .z (.q .z (.q .z .z)))))))))))))⟩
theorem q8 (fu : Nat) (cf : CF) (a0 a1 : V) (h : H) (n : Id) (k : KV) : evF fu cf e8 [a0, a1] h n k = s8 fu cf a0 a1 h n k := by kernel_rfl
theorem p8 : PfOk Tryz.prog tbx mtab 8 (w2 (s8 fuX)) := pfo e8 Tryz.func8 (by kernel_rfl) (w2_ok (q8 fuX))
noncomputable def s16 (fu : Nat) (cf : CF) (a0 : V) (h : H) (n : Id) (k : KV) : R :=
 evBin2 tbx .lss 3 a0 (.i .i64 10) fun v1 =>
 brB v1 (
 evBin2 tbx .add 3 (.i .i64 48) a0 fun v2 =>
 evConv2 tbx mtab 3 5 v2 h n fun v3 h n =>
 evBuildSl tbx 73 1 [(0, v3)] h n fun v4 h n =>
 evConv2 tbx mtab 73 9 v4 h n fun v5 h n =>
 k v5 h n) (
 evBin2 tbx .quo 3 a0 (.i .i64 10) fun v6 =>
 evBin2 tbx .rem 3 a0 (.i .i64 10) fun v7 =>
 evBin2 tbx .add 3 (.i .i64 48) v7 fun v8 =>
 evRc tbx 3 5 v8 h fun v9 =>
 alB n fun n' => sliA tbx 73 1 [(0, v9)] fun x mk => 
 (fun (v10 : V) h n =>
 evRc tbx 73 9 v10 h fun v11 =>
 evRc tbx 3 5 v8 h fun w17 => cond (eqV 6 w17 v9) (
 ckO (vId v10) h fun id x' => sliA tbx 73 1 [(0, v9)] fun x mk => cond (eqO x' x) (cond (eqV 6 (mk id) v10) (
 evRc tbx 73 9 v10 h fun w16 => cond (eqV 6 w16 v11) (
 cf 16 [v6] h n fun v12 h n =>
 evBin2 tbx .add 9 v12 v11 fun v13 =>
 evRc tbx 3 5 v8 h fun w15 => cond (eqV 6 w15 v9) (
 ckO (vId v10) h fun id x' => sliA tbx 73 1 [(0, v9)] fun x mk => cond (eqO x' x) (cond (eqV 6 (mk id) v10) (
 evRc tbx 73 9 v10 h fun w14 => cond (eqV 6 w14 v11) (
 k v13 h n) none) none) none) none) none) none) none) none) (mk n) (hset x n h) n')
noncomputable def e16 : FE := ⟨Tryz.f16, bd Tryz.f16, [0], [2], (.q .z (.q (.q .z (.c (.q .z .z) .z)) (.q .z .z)))⟩
theorem q16 (fu : Nat) (cf : CF) (a0 : V) (h : H) (n : Id) (k : KV) : evF fu cf e16 [a0] h n k = s16 fu cf a0 h n k := by kernel_rfl
theorem p16 : PfOk Tryz.prog tbx mtab 16 (w1 (s16 fuX)) := pfo e16 Tryz.func16 (by kernel_rfl) (w1_ok (q16 fuX))
noncomputable def s18 (fu : Nat) (cf : CF) (a0 : V) (h : H) (n : Id) (k : KV) : R :=
 evBox a0 h n fun v1 h n =>
 evLoad tbx 32 v1 h fun v2 =>
 cf 31 [v2] h n fun v3 h n =>
 evUn .not v3 fun v4 =>
 brB v4 (
 k (.tp [(.s 0 0), (.i .i64 10)]) h n) (
 evFa tbx 32 0 v1 fun v5 =>
 evFa tbx 24 0 v5 fun v6 =>
 evLoad tbx 9 v6 h fun v7 =>
 evFa tbx 32 0 v1 fun v8 =>
 evFa tbx 24 1 v8 fun v9 =>
 evLoad tbx 9 v9 h fun v10 =>
 evFa tbx 32 0 v1 fun v11 =>
 evFa tbx 24 2 v11 fun v12 =>
 evLoad tbx 9 v12 h fun v13 =>
 evLoad tbx 9 v6 h fun w122 => cond (eqV 6 w122 v7) (
 evLoad tbx 9 v9 h fun w121 => cond (eqV 6 w121 v10) (
 evLoad tbx 9 v12 h fun w120 => cond (eqV 6 w120 v13) (
 cf 33 [(.s 7 29117745638426980), v7] h n fun v14 h n =>
 evLoad tbx 9 v9 h fun w119 => cond (eqV 6 w119 v10) (
 evLoad tbx 9 v12 h fun w118 => cond (eqV 6 w118 v13) (
 cf 33 [(.s 10 460180866011107895298404), v10] h n fun v15 h n =>
 evBin2 tbx .add 9 v14 v15 fun v16 =>
 evLoad tbx 9 v12 h fun w117 => cond (eqV 6 w117 v13) (
 cf 33 [(.s 7 33325589488824174), v13] h n fun v17 h n =>
 evBin2 tbx .add 9 v16 v17 fun v18 =>
 cf 32 [(.s 6 123563833388660), v18] h n fun v19 h n =>
 evFa tbx 32 1 v1 fun v20 =>
 evLoad tbx 9 v20 h fun v21 =>
 evFa tbx 32 2 v1 fun v22 =>
 evLoad tbx 9 v22 h fun v23 =>
 evFa tbx 32 3 v1 fun v24 =>
 evLoad tbx 9 v24 h fun v25 =>
 evFa tbx 32 4 v1 fun v26 =>
 evLoad tbx 9 v26 h fun v27 =>
 evLoad tbx 9 v20 h fun w116 => cond (eqV 6 w116 v21) (
 evLoad tbx 9 v22 h fun w115 => cond (eqV 6 w115 v23) (
 evLoad tbx 9 v24 h fun w114 => cond (eqV 6 w114 v25) (
 evLoad tbx 9 v26 h fun w113 => cond (eqV 6 w113 v27) (
 cf 33 [(.s 7 29117745638426980), v21] h n fun v28 h n =>
 evBin2 tbx .add 9 v19 v28 fun v29 =>
 evLoad tbx 9 v22 h fun w112 => cond (eqV 6 w112 v23) (
 evLoad tbx 9 v24 h fun w111 => cond (eqV 6 w111 v25) (
 evLoad tbx 9 v26 h fun w110 => cond (eqV 6 w110 v27) (
 cf 33 [(.s 10 460180866011107895298404), v23] h n fun v30 h n =>
 evBin2 tbx .add 9 v29 v30 fun v31 =>
 evLoad tbx 9 v24 h fun w109 => cond (eqV 6 w109 v25) (
 evLoad tbx 9 v26 h fun w108 => cond (eqV 6 w108 v27) (
 cf 33 [(.s 7 33325589488824174), v25] h n fun v32 h n =>
 evBin2 tbx .add 9 v31 v32 fun v33 =>
 evLoad tbx 9 v26 h fun w107 => cond (eqV 6 w107 v27) (
 cf 33 [(.s 9 2073052906965934108263), v27] h n fun v34 h n =>
 evBin2 tbx .add 9 v33 v34 fun v35 =>
 jp (fun (s36 : VT [1, 4, 5]) h n =>
 pc s36 fun v38 s39 =>
 pc s39 fun v40 s41 =>
 pc s41 fun v42 s43 =>
 evFa tbx 32 6 v38 fun v44 =>
 evLoad tbx 30 v44 h fun v45 =>
 evFa tbx 32 7 v38 fun v46 =>
 evLoad tbx 30 v46 h fun v47 =>
 evLoad tbx 30 v44 h fun w63 => cond (eqV 6 w63 v45) (
 evLoad tbx 30 v46 h fun w62 => cond (eqV 6 w62 v47) (
 cf 32 [(.s 10 531016004935481008153971), v42] h n fun v48 h n =>
 evBin2 tbx .add 9 v40 v48 fun v49 =>
 evLoad tbx 30 v44 h fun w61 => cond (eqV 6 w61 v45) (
 evLoad tbx 30 v46 h fun w60 => cond (eqV 6 w60 v47) (
 cf 35 [v45] h n fun v50 h n =>
 evLoad tbx 30 v46 h fun w59 => cond (eqV 6 w59 v47) (
 cf 32 [(.s 20 573161243438715328014466462588970593706563694196), v50] h n fun v51 h n =>
 evBin2 tbx .add 9 v49 v51 fun v52 =>
 evLoad tbx 30 v46 h fun w58 => cond (eqV 6 w58 v47) (
 cf 35 [v47] h n fun v53 h n =>
 evBin2 tbx .add 9 v52 v53 fun v54 =>
 cf 32 [(.s 7 31651020243559284), v54] h n fun v55 h n =>
 evLen tbx 9 v55 fun v56 =>
 evBin2 tbx .gtr 3 v56 (.i .i64 20000) fun v57 =>
 brB v57 (
 k (.tp [(.s 0 0), (.i .i64 3)]) h n) (
 k (.tp [v55, (.i .i64 0)]) h n)) none) none) none) none) none) none) fun kk37 =>
 lpC [1, 4, 5, 6] (fun lo65 s64 h n =>
 pc s64 fun v66 s67 =>
 pc s67 fun v68 s69 =>
 pc s69 fun v70 s71 =>
 pc s71 fun v72 s73 =>
 evFa tbx 32 5 v66 fun v74 =>
 evLoad tbx 29 v74 h fun v75 =>
 evLen tbx 29 v75 fun v76 =>
 evBin2 tbx .lss 3 v72 v76 fun v77 =>
 brB v77 (
 jp (fun (s78 : VT [1, 4, 5, 6]) h n =>
 pc s78 fun v80 s81 =>
 pc s81 fun v82 s83 =>
 pc s83 fun v84 s85 =>
 pc s85 fun v86 s87 =>
 evBin2 tbx .add 3 v86 (.i .i64 1) fun v88 =>
 lo65 (v80, v82, v84, v88, ()) h n) fun kk79 =>
 evFa tbx 32 5 v66 fun v89 =>
 evLoad tbx 29 v89 h fun v90 =>
 evIa tbx 29 v90 v72 fun v91 =>
 evFa tbx 57 0 v91 fun v92 =>
 evLoad tbx 9 v92 h fun v93 =>
 evBin2 tbx .add 9 v70 (.s 1 60) fun v94 =>
 evBin2 tbx .add 9 v94 v93 fun v95 =>
 evBin2 tbx .add 9 v95 (.s 1 62) fun v96 =>
 evFa tbx 32 5 v66 fun v97 =>
 evLoad tbx 29 v97 h fun v98 =>
 evIa tbx 29 v98 v72 fun v99 =>
 evFa tbx 57 1 v99 fun v100 =>
 evLoad tbx 9 v100 h fun v101 =>
 cf 34 [v101] h n fun v102 h n =>
 evBin2 tbx .add 9 v96 v102 fun v103 =>
 evBin2 tbx .add 9 v103 (.s 2 15407) fun v104 =>
 evBin2 tbx .add 9 v104 v93 fun v105 =>
 evBin2 tbx .add 9 v105 (.s 1 62) fun v106 =>
 kk79 (v66, v68, v106, v72, ()) h n) (
 kk37 (v66, v68, v70, ()) h n)) fu (v1, v35, (.s 0 0), (.i .i64 0), ()) h n) none) none) none) none) none) none) none) none) none) none) none) none) none) none) none) none)
noncomputable def e18 : FE := ⟨Tryz.f18, bd Tryz.f18, [0], [2, 3], (.q .z (.q (.q .z (.c (.q .z .z) .z)) (.q .z (.q .z (.q .z (.q (.q .z (.b [1, 4, 5] (.l [1, 4, 5, 6] (.q (.q .z (.c .z .z)) (.q (.b [1, 4, 5, 6] (.q .z .z)) .z))))) (.q .z (.q .z (.q (.q .z (.c (.q .z .z) .z)) (.q .z .z))))))))))⟩
theorem q18 (fu : Nat) (cf : CF) (a0 : V) (h : H) (n : Id) (k : KV) : evF fu cf e18 [a0] h n k = s18 fu cf a0 h n k := by kernel_rfl
theorem p18 : PfOk Tryz.prog tbx mtab 18 (w1 (s18 fuX)) := pfo e18 Tryz.func18 (by kernel_rfl) (w1_ok (q18 fuX))
noncomputable def s19 (fu : Nat) (cf : CF) (a0 : V) (h : H) (n : Id) (k : KV) : R :=
 jp (fun (s3 : VT [2, 3]) h n =>
 pc s3 fun v6 s7 =>
 pc s7 fun v8 s9 =>
 k (.tp [v6, v8]) h n) fun kk1 =>
 jp (lpC [0, 4] (fun lo5 s4 h n =>
 pc s4 fun v10 s11 =>
 pc s11 fun v12 s13 =>
 evLen tbx 28 v10 fun v14 =>
 evBin2 tbx .eql 3 v14 (.i .i64 0) fun v15 =>
 brB v15 (
 evNc' v12 fun v16 =>
 evFa tbx 81 2 v16 fun v17 =>
 evLoad tbx 79 v17 h fun v18 =>
 cf 36 [v18, (.fn 37 [])] h n fun v19 h n =>
 k (.tp [v12, (.i .i64 0)]) h n) (
 evIa tbx 28 v10 (.i .i64 0) fun v20 =>
 evFa tbx 37 0 v20 fun v21 =>
 evLoad tbx 24 v21 h fun v22 =>
 evAlloc tbx 24 h n fun v23 h n =>
 evStore tbx 24 v23 v22 h n fun _ h n =>
 evLoad tbx 24 v23 h fun v24 =>
 cf 38 [v24] h n fun v25 h n =>
 evUn .not v25 fun v26 =>
 brB v26 (
 k (.tp [.np, (.i .i64 1)]) h n) (
 evNc' v12 fun v27 =>
 evFa tbx 81 0 v27 fun v28 =>
 evLoad tbx 77 v28 h fun v29 =>
 evLoad tbx 24 v23 h fun v30 =>
 evLook tbx mtab 77 v29 v30 true h fun v31 =>
 evExt 0 v31 fun v32 =>
 evExt 1 v31 fun v33 =>
 evLoad tbx 77 v28 h fun w101 => cond (eqV 6 w101 v29) (
 evLoad tbx 24 v23 h fun w100 => cond (eqV 6 w100 v30) (
 evLook tbx mtab 77 v29 v30 true h fun w99 => cond (eqV 6 w99 v31) (
 brB v33 (
 k (.tp [.np, (.i .i64 9)]) h n) (
 evFa tbx 24 0 v23 fun v34 =>
 evLoad tbx 9 v34 h fun v35 =>
 evFa tbx 24 1 v23 fun v36 =>
 evLoad tbx 9 v36 h fun v37 =>
 evBuild tbx 87 [(0, v35), (1, v37)] fun v38 =>
 evAlloc tbx 87 h n fun v39 h n =>
 evStore tbx 87 v39 v38 h n fun _ h n =>
 evNc' v12 fun v40 =>
 evFa tbx 81 0 v40 fun v41 =>
 evLoad tbx 77 v41 h fun v42 =>
 evLoad tbx 24 v23 h fun v43 =>
 evNc' v12 fun v44 =>
 evFa tbx 81 1 v44 fun v45 =>
 evLoad tbx 78 v45 h fun v46 =>
 evLoad tbx 87 v39 h fun v47 =>
 evIa tbx 28 v10 (.i .i64 0) fun v48 =>
 evFa tbx 37 1 v48 fun v49 =>
 evLoad tbx 9 v49 h fun v50 =>
 evNc' v12 fun v51 =>
 evFa tbx 81 1 v51 fun v52 =>
 evLoad tbx 78 v52 h fun v53 =>
 evLoad tbx 87 v39 h fun v54 =>
 evLook tbx mtab 78 v53 v54 false h fun v55 =>
 evFa tbx 24 2 v23 fun v56 =>
 evLoad tbx 9 v56 h fun v57 =>
 alB n fun n' => sliA tbx 71 1 [(0, v57)] fun x mk => 
 (fun (v58 : V) h n =>
 evNc' v12 fun v59 =>
 evFa tbx 81 2 v59 fun v60 =>
 evLoad tbx 79 v60 h fun v61 =>
 evLoad tbx 24 v23 h fun v62 =>
 alB n fun n' => sliA tbx 79 1 [(0, v62)] fun x mk => 
 (fun (v63 : V) h n =>
 evLoad tbx 77 v41 h fun w98 => cond (eqV 6 w98 v42) (
 evLoad tbx 24 v23 h fun w97 => cond (eqV 6 w97 v43) (
 evLoad tbx 78 v45 h fun w96 => cond (eqV 6 w96 v46) (
 evLoad tbx 87 v39 h fun w95 => cond (eqV 6 w95 v47) (
 evLoad tbx 9 v49 h fun w94 => cond (eqV 6 w94 v50) (
 evLoad tbx 78 v52 h fun w93 => cond (eqV 6 w93 v53) (
 evLoad tbx 87 v39 h fun w92 => cond (eqV 6 w92 v54) (
 evLook tbx mtab 78 v53 v54 false h fun w91 => cond (eqV 6 w91 v55) (
 evLoad tbx 9 v56 h fun w90 => cond (eqV 6 w90 v57) (
 ckO (vId v58) h fun id x' => sliA tbx 71 1 [(0, v57)] fun x mk => cond (eqO x' x) (cond (eqV 6 (mk id) v58) (
 evLoad tbx 79 v60 h fun w89 => cond (eqV 6 w89 v61) (
 evLoad tbx 24 v23 h fun w88 => cond (eqV 6 w88 v62) (
 ckO (vId v63) h fun id x' => sliA tbx 79 1 [(0, v62)] fun x mk => cond (eqO x' x) (cond (eqV 6 (mk id) v63) (
 evApp tbx 71 71 v55 v58 h n fun v64 h n =>
 evLoad tbx 77 v41 h fun w87 => cond (eqV 6 w87 v42) (
 evLoad tbx 24 v23 h fun w86 => cond (eqV 6 w86 v43) (
 evLoad tbx 78 v45 h fun w85 => cond (eqV 6 w85 v46) (
 evLoad tbx 87 v39 h fun w84 => cond (eqV 6 w84 v47) (
 evLoad tbx 9 v49 h fun w83 => cond (eqV 6 w83 v50) (
 evLoad tbx 79 v60 h fun w82 => cond (eqV 6 w82 v61) (
 evLoad tbx 24 v23 h fun w81 => cond (eqV 6 w81 v62) (
 ckO (vId v63) h fun id x' => sliA tbx 79 1 [(0, v62)] fun x mk => cond (eqO x' x) (cond (eqV 6 (mk id) v63) (
 evApp tbx 79 79 v61 v63 h n fun v65 h n =>
 evLoad tbx 77 v41 h fun w80 => cond (eqV 6 w80 v42) (
 evLoad tbx 24 v23 h fun w79 => cond (eqV 6 w79 v43) (
 evLoad tbx 78 v45 h fun w78 => cond (eqV 6 w78 v46) (
 evLoad tbx 87 v39 h fun w77 => cond (eqV 6 w77 v47) (
 evLoad tbx 9 v49 h fun w76 => cond (eqV 6 w76 v50) (
 evMapEnt tbx mtab 77 v42 v43 h n fun v66 h n =>
 evExt 1 v66 fun v67 =>
 evLoad tbx 87 v39 h fun w75 => cond (eqV 6 w75 v47) (
 evLoad tbx 9 v49 h fun w74 => cond (eqV 6 w74 v50) (
 evEntSt v42 v67 v50 h n fun _ h n =>
 evLoad tbx 87 v39 h fun w73 => cond (eqV 6 w73 v47) (
 evMapEnt tbx mtab 78 v46 v47 h n fun v68 h n =>
 evExt 1 v68 fun v69 =>
 evEntSt v46 v69 v64 h n fun _ h n =>
 evNc' v12 fun v70 =>
 evFa tbx 81 2 v70 fun v71 =>
 evStore tbx 79 v71 v65 h n fun _ h n =>
 evSlc tbx 28 v10 (some (.i .i64 1)) none fun v72 =>
 lo5 (v72, v12, ()) h n) none) none) none) none) none) none) none) none) none) none) none) none) none) none) none) none) none) none) none) none) none) none) none) none) none) none) none) none) none) none) none) none) (mk n) (hset x n h) n') (mk n) (hset x n h) n')) none) none) none))) fu) fun lo2 =>
 evLen tbx 28 a0 fun v102 =>
 evBin2 tbx .gtr 3 v102 (.i .i64 300) fun v103 =>
 brB v103 (
 k (.tp [.np, (.i .i64 3)]) h n) (
 evMkMap h n fun v104 h n =>
 evMkMap h n fun v105 h n =>
 evBuild tbx 81 [(0, v104), (1, v105)] fun v106 =>
 evBox v106 h n fun v107 h n =>
 evLen tbx 28 a0 fun v108 =>
 evBin2 tbx .eql 3 v108 (.i .i64 0) fun v109 =>
 brB v109 (
 evNc' v107 fun v110 =>
 evFa tbx 81 2 v110 fun v111 =>
 evLoad tbx 79 v111 h fun v112 =>
 cf 36 [v112, (.fn 37 [])] h n fun v113 h n =>
 k (.tp [v107, (.i .i64 0)]) h n) (
 evIa tbx 28 a0 (.i .i64 0) fun v114 =>
 evFa tbx 37 0 v114 fun v115 =>
 evLoad tbx 24 v115 h fun v116 =>
 evAlloc tbx 24 h n fun v117 h n =>
 evStore tbx 24 v117 v116 h n fun _ h n =>
 evLoad tbx 24 v117 h fun v118 =>
 cf 38 [v118] h n fun v119 h n =>
 evUn .not v119 fun v120 =>
 brB v120 (
 k (.tp [.np, (.i .i64 1)]) h n) (
 evNc' v107 fun v121 =>
 evFa tbx 81 0 v121 fun v122 =>
 evLoad tbx 77 v122 h fun v123 =>
 evLoad tbx 24 v117 h fun v124 =>
 evLook tbx mtab 77 v123 v124 true h fun v125 =>
 evExt 0 v125 fun v126 =>
 evExt 1 v125 fun v127 =>
 evLoad tbx 77 v122 h fun w195 => cond (eqV 6 w195 v123) (
 evLoad tbx 24 v117 h fun w194 => cond (eqV 6 w194 v124) (
 evLook tbx mtab 77 v123 v124 true h fun w193 => cond (eqV 6 w193 v125) (
 brB v127 (
 k (.tp [.np, (.i .i64 9)]) h n) (
 evFa tbx 24 0 v117 fun v128 =>
 evLoad tbx 9 v128 h fun v129 =>
 evFa tbx 24 1 v117 fun v130 =>
 evLoad tbx 9 v130 h fun v131 =>
 evBuild tbx 87 [(0, v129), (1, v131)] fun v132 =>
 evAlloc tbx 87 h n fun v133 h n =>
 evStore tbx 87 v133 v132 h n fun _ h n =>
 evNc' v107 fun v134 =>
 evFa tbx 81 0 v134 fun v135 =>
 evLoad tbx 77 v135 h fun v136 =>
 evLoad tbx 24 v117 h fun v137 =>
 evNc' v107 fun v138 =>
 evFa tbx 81 1 v138 fun v139 =>
 evLoad tbx 78 v139 h fun v140 =>
 evLoad tbx 87 v133 h fun v141 =>
 evIa tbx 28 a0 (.i .i64 0) fun v142 =>
 evFa tbx 37 1 v142 fun v143 =>
 evLoad tbx 9 v143 h fun v144 =>
 evNc' v107 fun v145 =>
 evFa tbx 81 1 v145 fun v146 =>
 evLoad tbx 78 v146 h fun v147 =>
 evLoad tbx 87 v133 h fun v148 =>
 evLook tbx mtab 78 v147 v148 false h fun v149 =>
 evFa tbx 24 2 v117 fun v150 =>
 evLoad tbx 9 v150 h fun v151 =>
 alB n fun n' => sliA tbx 71 1 [(0, v151)] fun x mk => 
 (fun (v152 : V) h n =>
 evNc' v107 fun v153 =>
 evFa tbx 81 2 v153 fun v154 =>
 evLoad tbx 79 v154 h fun v155 =>
 evLoad tbx 24 v117 h fun v156 =>
 alB n fun n' => sliA tbx 79 1 [(0, v156)] fun x mk => 
 (fun (v157 : V) h n =>
 evLoad tbx 77 v135 h fun w192 => cond (eqV 6 w192 v136) (
 evLoad tbx 24 v117 h fun w191 => cond (eqV 6 w191 v137) (
 evLoad tbx 78 v139 h fun w190 => cond (eqV 6 w190 v140) (
 evLoad tbx 87 v133 h fun w189 => cond (eqV 6 w189 v141) (
 evLoad tbx 9 v143 h fun w188 => cond (eqV 6 w188 v144) (
 evLoad tbx 78 v146 h fun w187 => cond (eqV 6 w187 v147) (
 evLoad tbx 87 v133 h fun w186 => cond (eqV 6 w186 v148) (
 evLook tbx mtab 78 v147 v148 false h fun w185 => cond (eqV 6 w185 v149) (
 evLoad tbx 9 v150 h fun w184 => cond (eqV 6 w184 v151) (
 ckO (vId v152) h fun id x' => sliA tbx 71 1 [(0, v151)] fun x mk => cond (eqO x' x) (cond (eqV 6 (mk id) v152) (
 evLoad tbx 79 v154 h fun w183 => cond (eqV 6 w183 v155) (
 evLoad tbx 24 v117 h fun w182 => cond (eqV 6 w182 v156) (
 ckO (vId v157) h fun id x' => sliA tbx 79 1 [(0, v156)] fun x mk => cond (eqO x' x) (cond (eqV 6 (mk id) v157) (
 evApp tbx 71 71 v149 v152 h n fun v158 h n =>
 evLoad tbx 77 v135 h fun w181 => cond (eqV 6 w181 v136) (
 evLoad tbx 24 v117 h fun w180 => cond (eqV 6 w180 v137) (
 evLoad tbx 78 v139 h fun w179 => cond (eqV 6 w179 v140) (
 evLoad tbx 87 v133 h fun w178 => cond (eqV 6 w178 v141) (
 evLoad tbx 9 v143 h fun w177 => cond (eqV 6 w177 v144) (
 evLoad tbx 79 v154 h fun w176 => cond (eqV 6 w176 v155) (
 evLoad tbx 24 v117 h fun w175 => cond (eqV 6 w175 v156) (
 ckO (vId v157) h fun id x' => sliA tbx 79 1 [(0, v156)] fun x mk => cond (eqO x' x) (cond (eqV 6 (mk id) v157) (
 evApp tbx 79 79 v155 v157 h n fun v159 h n =>
 evLoad tbx 77 v135 h fun w174 => cond (eqV 6 w174 v136) (
 evLoad tbx 24 v117 h fun w173 => cond (eqV 6 w173 v137) (
 evLoad tbx 78 v139 h fun w172 => cond (eqV 6 w172 v140) (
 evLoad tbx 87 v133 h fun w171 => cond (eqV 6 w171 v141) (
 evLoad tbx 9 v143 h fun w170 => cond (eqV 6 w170 v144) (
 evMapEnt tbx mtab 77 v136 v137 h n fun v160 h n =>
 evExt 1 v160 fun v161 =>
 evLoad tbx 87 v133 h fun w169 => cond (eqV 6 w169 v141) (
 evLoad tbx 9 v143 h fun w168 => cond (eqV 6 w168 v144) (
 evEntSt v136 v161 v144 h n fun _ h n =>
 evLoad tbx 87 v133 h fun w167 => cond (eqV 6 w167 v141) (
 evMapEnt tbx mtab 78 v140 v141 h n fun v162 h n =>
 evExt 1 v162 fun v163 =>
 evEntSt v140 v163 v158 h n fun _ h n =>
 evNc' v107 fun v164 =>
 evFa tbx 81 2 v164 fun v165 =>
 evStore tbx 79 v165 v159 h n fun _ h n =>
 evSlc tbx 28 a0 (some (.i .i64 1)) none fun v166 =>
 lo2 (v166, v107, ()) h n) none) none) none) none) none) none) none) none) none) none) none) none) none) none) none) none) none) none) none) none) none) none) none) none) none) none) none) none) none) none) none) none) (mk n) (hset x n h) n') (mk n) (hset x n h) n')) none) none) none)))
noncomputable def e19 : FE := ⟨Tryz.f19, bd Tryz.f19, [0], [2, 3], (.q .z (.g 0 [0, 4] [2, 3] (.q (.q .z (.c (.q .z .z) .z)) (.q .z (.q .z (.q (.q .z (.c (.q .z (.q .z .z)) .z)) (.q .z (.q (.q .z (.c (.q .z .z) .z)) (.q (.q .z (.q .z (.c (.q .z .z) .z))) (.q .z (.q .z (.q .z .z)))))))))) (.q .z (.q (.q .z (.c (.q .z (.q .z .z)) .z)) (.q .z (.q (.q .z (.c (.q .z .z) .z)) (.q (.q .z (.q .z (.c (.q .z .z) .z))) (.q .z (.q .z (.q .z .z))))))))))⟩
theorem q19 (fu : Nat) (cf : CF) (a0 : V) (h : H) (n : Id) (k : KV) : evF fu cf e19 [a0] h n k = s19 fu cf a0 h n k := by kernel_rfl
theorem p19 : PfOk Tryz.prog tbx mtab 19 (w1 (s19 fuX)) := pfo e19 Tryz.func19 (by kernel_rfl) (w1_ok (q19 fuX))
noncomputable def s20 (fu : Nat) (cf : CF) (a0 a1 : V) (h : H) (n : Id) (k : KV) : R :=
 evBox a1 h n fun v1 h n =>
 jp (fun (s4 : VT [4, 5]) h n =>
 pc s4 fun v7 s8 =>
 pc s8 fun v9 s10 =>
 k (.tp [v7, v9]) h n) fun kk2 =>
 jp (lpC [0, 3, 6, 7] (fun lo6 s5 h n =>
 pc s5 fun v11 s12 =>
 pc s12 fun v13 s14 =>
 pc s14 fun v15 s16 =>
 pc s16 fun v17 s18 =>
 jp (fun (s19 : VT [0, 3, 6, 7]) h n =>
 pc s19 fun v21 s22 =>
 pc s22 fun v23 s24 =>
 pc s24 fun v25 s26 =>
 pc s26 fun v27 s28 =>
 evLoad tbx 24 v23 h fun v29 =>
 cf 22 [v21, v29] h n fun v30 h n =>
 evExt 0 v30 fun v31 =>
 evExt 1 v30 fun v32 =>
 evAlloc tbx 32 h n fun v33 h n =>
 evStore tbx 32 v33 v31 h n fun _ h n =>
 evBin2 tbx .neq 33 v32 (.i .i64 0) fun v34 =>
 brB v34 (
 k (.tp [.ns, v32]) h n) (
 evLoad tbx 32 v33 h fun v35 =>
 alB n fun n' => sliA tbx 41 1 [(0, v35)] fun x mk => 
 (fun (v36 : V) h n =>
 evLoad tbx 24 v23 h fun v37 =>
 alB n fun n' => sliA tbx 79 1 [(0, v37)] fun x mk => 
 (fun (v38 : V) h n =>
 evFa tbx 32 0 v33 fun v39 =>
 evLoad tbx 24 v39 h fun v40 =>
 evLoad tbx 32 v33 h fun w51 => cond (eqV 6 w51 v35) (
 ckO (vId v36) h fun id x' => sliA tbx 41 1 [(0, v35)] fun x mk => cond (eqO x' x) (cond (eqV 6 (mk id) v36) (
 evLoad tbx 24 v23 h fun w50 => cond (eqV 6 w50 v37) (
 ckO (vId v38) h fun id x' => sliA tbx 79 1 [(0, v37)] fun x mk => cond (eqO x' x) (cond (eqV 6 (mk id) v38) (
 evLoad tbx 24 v39 h fun w49 => cond (eqV 6 w49 v40) (
 evApp tbx 41 41 v25 v36 h n fun v41 h n =>
 evLoad tbx 24 v23 h fun w48 => cond (eqV 6 w48 v37) (
 ckO (vId v38) h fun id x' => sliA tbx 79 1 [(0, v37)] fun x mk => cond (eqO x' x) (cond (eqV 6 (mk id) v38) (
 evLoad tbx 24 v39 h fun w47 => cond (eqV 6 w47 v40) (
 evApp tbx 79 79 v27 v38 h n fun v42 h n =>
 evLoad tbx 24 v39 h fun w46 => cond (eqV 6 w46 v40) (
 evStore tbx 24 v23 v40 h n fun _ h n =>
 evLoad tbx 24 v23 h fun v43 =>
 evBuild tbx 24 [] fun v44 =>
 evBin2 tbx .neq 24 v43 v44 fun v45 =>
 brB v45 (
 lo6 (v21, v23, v41, v42, ()) h n) (
 k (.tp [v41, (.i .i64 0)]) h n)) none) none) none) none) none) none) none) none) none) none) none) none) (mk n) (hset x n h) n') (mk n) (hset x n h) n')) fun kk20 =>
 evLoad tbx 24 v13 h fun v52 =>
 cf 39 [v17, v52] h n fun v53 h n =>
 brB v53 (
 k (.tp [.ns, (.i .i64 16)]) h n) (
 evLen tbx 41 v15 fun v54 =>
 evBin2 tbx .geq 3 v54 (.i .i64 10) fun v55 =>
 brB v55 (
 k (.tp [.ns, (.i .i64 7)]) h n) (
 evLoad tbx 24 v13 h fun v56 =>
 cf 38 [v56] h n fun v57 h n =>
 evUn .not v57 fun v58 =>
 brB v58 (
 k (.tp [.ns, (.i .i64 10)]) h n) (
 kk20 (v11, v13, v15, v17, ()) h n)))) fu) fun lo3 =>
 jp (fun (s59 : VT [0, 3, 6, 7]) h n =>
 pc s59 fun v61 s62 =>
 pc s62 fun v63 s64 =>
 pc s64 fun v65 s66 =>
 pc s66 fun v67 s68 =>
 evLoad tbx 24 v63 h fun v69 =>
 cf 22 [v61, v69] h n fun v70 h n =>
 evExt 0 v70 fun v71 =>
 evExt 1 v70 fun v72 =>
 evAlloc tbx 32 h n fun v73 h n =>
 evStore tbx 32 v73 v71 h n fun _ h n =>
 evBin2 tbx .neq 33 v72 (.i .i64 0) fun v74 =>
 brB v74 (
 k (.tp [.ns, v72]) h n) (
 evLoad tbx 32 v73 h fun v75 =>
 alB n fun n' => sliA tbx 41 1 [(0, v75)] fun x mk => 
 (fun (v76 : V) h n =>
 evLoad tbx 24 v63 h fun v77 =>
 alB n fun n' => sliA tbx 79 1 [(0, v77)] fun x mk => 
 (fun (v78 : V) h n =>
 evFa tbx 32 0 v73 fun v79 =>
 evLoad tbx 24 v79 h fun v80 =>
 evLoad tbx 32 v73 h fun w91 => cond (eqV 6 w91 v75) (
 ckO (vId v76) h fun id x' => sliA tbx 41 1 [(0, v75)] fun x mk => cond (eqO x' x) (cond (eqV 6 (mk id) v76) (
 evLoad tbx 24 v63 h fun w90 => cond (eqV 6 w90 v77) (
 ckO (vId v78) h fun id x' => sliA tbx 79 1 [(0, v77)] fun x mk => cond (eqO x' x) (cond (eqV 6 (mk id) v78) (
 evLoad tbx 24 v79 h fun w89 => cond (eqV 6 w89 v80) (
 evApp tbx 41 41 v65 v76 h n fun v81 h n =>
 evLoad tbx 24 v63 h fun w88 => cond (eqV 6 w88 v77) (
 ckO (vId v78) h fun id x' => sliA tbx 79 1 [(0, v77)] fun x mk => cond (eqO x' x) (cond (eqV 6 (mk id) v78) (
 evLoad tbx 24 v79 h fun w87 => cond (eqV 6 w87 v80) (
 evApp tbx 79 79 v67 v78 h n fun v82 h n =>
 evLoad tbx 24 v79 h fun w86 => cond (eqV 6 w86 v80) (
 evStore tbx 24 v63 v80 h n fun _ h n =>
 evLoad tbx 24 v63 h fun v83 =>
 evBuild tbx 24 [] fun v84 =>
 evBin2 tbx .neq 24 v83 v84 fun v85 =>
 brB v85 (
 lo3 (v61, v63, v81, v82, ()) h n) (
 k (.tp [v81, (.i .i64 0)]) h n)) none) none) none) none) none) none) none) none) none) none) none) none) (mk n) (hset x n h) n') (mk n) (hset x n h) n')) fun kk60 =>
 evLoad tbx 24 v1 h fun v92 =>
 cf 39 [.ns, v92] h n fun v93 h n =>
 brB v93 (
 k (.tp [.ns, (.i .i64 16)]) h n) (
 evLen tbx 41 .ns fun v94 =>
 evBin2 tbx .geq 3 v94 (.i .i64 10) fun v95 =>
 brB v95 (
 k (.tp [.ns, (.i .i64 7)]) h n) (
 evLoad tbx 24 v1 h fun v96 =>
 cf 38 [v96] h n fun v97 h n =>
 evUn .not v97 fun v98 =>
 brB v98 (
 k (.tp [.ns, (.i .i64 10)]) h n) (
 kk60 (a0, v1, .ns, .ns, ()) h n)))
noncomputable def e20 : FE := ⟨Tryz.f20, bd Tryz.f20, [0, 1], [4, 5], (.q .z (.g 0 [0, 3, 6, 7] [4, 5] (.q .z (.q .z (.q .z (.q (.b [0, 3, 6, 7] (.q .z (.c (.q .z .z) (.q .z (.c (.q .z .z) (.q .z (.c (.q .z .z) .z))))))) (.q .z (.q (.q .z (.c (.q .z .z) .z)) (.q .z (.q (.q .z (.c .z .z)) (.q .z .z))))))))) (.q .z (.q (.b [0, 3, 6, 7] (.q .z (.c (.q .z .z) (.q .z (.c (.q .z .z) (.q .z (.c (.q .z .z) .z))))))) (.q .z (.q (.q .z (.c (.q .z .z) .z)) (.q .z (.q (.q .z (.c .z .z)) (.q .z .z)))))))))⟩
theorem q20 (fu : Nat) (cf : CF) (a0 a1 : V) (h : H) (n : Id) (k : KV) : evF fu cf e20 [a0, a1] h n k = s20 fu cf a0 a1 h n k := by kernel_rfl
theorem p20 : PfOk Tryz.prog tbx mtab 20 (w2 (s20 fuX)) := pfo e20 Tryz.func20 (by kernel_rfl) (w2_ok (q20 fuX))
noncomputable def s22 (fu : Nat) (cf : CF) (a0 a1 : V) (h : H) (n : Id) (k : KV) : R :=
 evBox a1 h n fun v1 h n =>
 evAlloc tbx 32 h n fun v2 h n =>
 evLoad tbx 24 v1 h fun v3 =>
 cf 40 [a0, v3] h n fun v4 h n =>
 evExt 0 v4 fun v5 =>
 evExt 1 v4 fun v6 =>
 evUn .not v6 fun v7 =>
 brB v7 (
 evBuild tbx 32 [] fun v8 =>
 evStore tbx 32 v2 v8 h n fun _ h n =>
 evLoad tbx 32 v2 h fun v9 =>
 k (.tp [v9, (.i .i64 14)]) h n) (
 cf 41 [v5] h n fun v10 h n =>
 evExt 0 v10 fun v11 =>
 evExt 1 v10 fun v12 =>
 evAlloc tbx 32 h n fun v13 h n =>
 evStore tbx 32 v13 v11 h n fun _ h n =>
 jp (fun (s14 : VT [4, 8]) h n =>
 pc s14 fun v16 s17 =>
 pc s17 fun v18 s19 =>
 evLoad tbx 32 v18 h fun v20 =>
 evStore tbx 32 v16 v20 h n fun _ h n =>
 evLoad tbx 32 v16 h fun v21 =>
 k (.tp [v21, (.i .i64 0)]) h n) fun kk15 =>
 evBin2 tbx .neq 33 v12 (.i .i64 0) fun v22 =>
 brB v22 (
 evBuild tbx 32 [] fun v23 =>
 evStore tbx 32 v2 v23 h n fun _ h n =>
 evLoad tbx 32 v2 h fun v24 =>
 k (.tp [v24, v12]) h n) (
 evFa tbx 32 2 v13 fun v25 =>
 evLoad tbx 9 v25 h fun v26 =>
 evFa tbx 24 1 v1 fun v27 =>
 evLoad tbx 9 v27 h fun v28 =>
 evBin2 tbx .neq 9 v26 v28 fun v29 =>
 jp (fun (v30 : V) h n =>
 jp (fun (v32 : V) h n =>
 jp (fun (v34 : V) h n =>
 jp (fun (v36 : V) h n =>
 jp (fun (v38 : V) h n =>
 jp (fun (v40 : V) h n =>
 jp (fun (v42 : V) h n =>
 evLoad tbx 9 v25 h fun w85 => cond (eqV 6 w85 v26) (
 evLoad tbx 9 v27 h fun w84 => cond (eqV 6 w84 v28) (
 thenR (wsB (wV v29 false) (evLoad tbx 9 v30 h fun w44 => cond (eqV 6 w44 v32) (okR) none) (cond (eqV 2 v32 (.tp [])) okR none)) (
 thenR (wsB (wV v29 false) (evLoad tbx 9 v36 h fun w45 => cond (eqV 6 w45 v38) (okR) none) (cond (eqV 2 v38 (.tp [])) okR none)) (
 thenR (wsB (wV v29 false) (evLoad tbx 9 v40 h fun w46 => cond (eqV 6 w46 v42) (okR) none) (cond (eqV 2 v42 (.tp [])) okR none)) (
 jp (fun (v47 : V) h n =>
 thenR (wsB (wV v29 false) (evLoad tbx 9 v40 h fun w49 => cond (eqV 6 w49 v42) (okR) none) (cond (eqV 2 v42 (.tp [])) okR none)) (
 jp (fun (v50 : V) h n =>
 jp (fun (v52 : V) h n =>
 evPick v29 (.b true) v52 fun v54 =>
 jp (fun (v55 : V) h n =>
 jp (fun (v57 : V) h n =>
 jp (fun (v59 : V) h n =>
 jp (fun (v61 : V) h n =>
 jp (fun (v63 : V) h n =>
 jp (fun (v65 : V) h n =>
 jp (fun (v67 : V) h n =>
 thenR (wsB (wV v29 false) (evLoad tbx 9 v40 h fun w69 => cond (eqV 6 w69 v42) (okR) none) (cond (eqV 2 v42 (.tp [])) okR none)) (
 thenR (wsB (wV v54 false) (evLoad tbx 9 v55 h fun w70 => cond (eqV 6 w70 v57) (okR) none) (cond (eqV 2 v57 (.tp [])) okR none)) (
 thenR (wsB (wV v54 false) (evLoad tbx 9 v61 h fun w71 => cond (eqV 6 w71 v63) (okR) none) (cond (eqV 2 v63 (.tp [])) okR none)) (
 thenR (wsB (wV v54 false) (evLoad tbx 9 v65 h fun w72 => cond (eqV 6 w72 v67) (okR) none) (cond (eqV 2 v67 (.tp [])) okR none)) (
 jp (fun (v73 : V) h n =>
 thenR (wsB (wV v54 false) (evLoad tbx 9 v65 h fun w75 => cond (eqV 6 w75 v67) (okR) none) (cond (eqV 2 v67 (.tp [])) okR none)) (
 jp (fun (v76 : V) h n =>
 jp (fun (v78 : V) h n =>
 evPick v54 (.b true) v78 fun v80 =>
 thenR (wsB (wV v54 false) (evLoad tbx 9 v65 h fun w81 => cond (eqV 6 w81 v67) (okR) none) (cond (eqV 2 v67 (.tp [])) okR none)) (
 brB v80 (
 evBuild tbx 32 [] fun v82 =>
 evStore tbx 32 v2 v82 h n fun _ h n =>
 evLoad tbx 32 v2 h fun v83 =>
 k (.tp [v83, (.i .i64 15)]) h n) (
 kk15 (v2, v13, ()) h n))) fun kk79 =>
 wsB (wV v54 false) ((evBin2 tbx .neq 9 v76 v67 fun v => kk79 v h n)) (kk79 (.tp []) h n)) fun kk77 =>
 wsB (wV v54 false) ((cf 42 [v73] h n kk77)) (kk77 (.tp []) h n))) fun kk74 =>
 wsB (wV v54 false) ((evBuildSl tbx 71 2 [(0, v57), (1, v63)] h n kk74)) (kk74 (.tp []) h n)))))) fun kk68 =>
 wsB (wV v54 false) ((evLoad tbx 9 v65 h fun v => kk68 v h n)) (kk68 (.tp []) h n)) fun kk66 =>
 wsB (wV v54 false) ((evFa tbx 24 2 v1 fun v => kk66 v h n)) (kk66 (.tp []) h n)) fun kk64 =>
 wsB (wV v54 false) ((evLoad tbx 9 v61 h fun v => kk64 v h n)) (kk64 (.tp []) h n)) fun kk62 =>
 wsB (wV v54 false) ((evFa tbx 24 2 v59 fun v => kk62 v h n)) (kk62 (.tp []) h n)) fun kk60 =>
 wsB (wV v54 false) ((evFa tbx 32 0 v13 fun v => kk60 v h n)) (kk60 (.tp []) h n)) fun kk58 =>
 wsB (wV v54 false) ((evLoad tbx 9 v55 h fun v => kk58 v h n)) (kk58 (.tp []) h n)) fun kk56 =>
 wsB (wV v54 false) ((evFa tbx 32 3 v13 fun v => kk56 v h n)) (kk56 (.tp []) h n)) fun kk53 =>
 wsB (wV v29 false) ((evBin2 tbx .neq 9 v50 v42 fun v => kk53 v h n)) (kk53 (.tp []) h n)) fun kk51 =>
 wsB (wV v29 false) ((cf 42 [v47] h n kk51)) (kk51 (.tp []) h n))) fun kk48 =>
 wsB (wV v29 false) ((evBuildSl tbx 71 2 [(0, v32), (1, v38)] h n kk48)) (kk48 (.tp []) h n))))) none) none) fun kk43 =>
 wsB (wV v29 false) ((evLoad tbx 9 v40 h fun v => kk43 v h n)) (kk43 (.tp []) h n)) fun kk41 =>
 wsB (wV v29 false) ((evFa tbx 24 0 v1 fun v => kk41 v h n)) (kk41 (.tp []) h n)) fun kk39 =>
 wsB (wV v29 false) ((evLoad tbx 9 v36 h fun v => kk39 v h n)) (kk39 (.tp []) h n)) fun kk37 =>
 wsB (wV v29 false) ((evFa tbx 24 0 v34 fun v => kk37 v h n)) (kk37 (.tp []) h n)) fun kk35 =>
 wsB (wV v29 false) ((evFa tbx 32 0 v13 fun v => kk35 v h n)) (kk35 (.tp []) h n)) fun kk33 =>
 wsB (wV v29 false) ((evLoad tbx 9 v30 h fun v => kk33 v h n)) (kk33 (.tp []) h n)) fun kk31 =>
 wsB (wV v29 false) ((evFa tbx 32 1 v13 fun v => kk31 v h n)) (kk31 (.tp []) h n)))
noncomputable def e22 : FE := ⟨Tryz.f22, bd Tryz.f22, [0, 1], [4, 5], (.q .z (.q .z (.q (.q .z (.c (.q .z .z) .z)) (.q .z (.q (.b [4, 8] (.q .z (.c (.q .z .z) (.q .z (.c (.q .z .z) .z))))) (.q .z .z))))))⟩
theorem q22 (fu : Nat) (cf : CF) (a0 a1 : V) (h : H) (n : Id) (k : KV) : evF fu cf e22 [a0, a1] h n k = s22 fu cf a0 a1 h n k := by kernel_rfl
theorem p22 : PfOk Tryz.prog tbx mtab 22 (w2 (s22 fuX)) := pfo e22 Tryz.func22 (by kernel_rfl) (w2_ok (q22 fuX))
noncomputable def s23 (fu : Nat) (cf : CF) (a0 : V) (h : H) (n : Id) (k : KV) : R :=
 cf 19 [a0] h n fun v1 h n =>
 evExt 0 v1 fun v2 =>
 evExt 1 v1 fun v3 =>
 cf 43 [a0] h n fun v4 h n =>
 evExt 0 v4 fun v5 =>
 evExt 1 v4 fun v6 =>
 k (.tp [v2, v5]) h n
noncomputable def e23 : FE := ⟨Tryz.f23, bd Tryz.f23, [0], [2, 3], (.q .z (.q .z (.q .z (.q .z .z))))⟩
theorem q23 (fu : Nat) (cf : CF) (a0 : V) (h : H) (n : Id) (k : KV) : evF fu cf e23 [a0] h n k = s23 fu cf a0 h n k := by kernel_rfl
theorem p23 : PfOk Tryz.prog tbx mtab 23 (w1 (s23 fuX)) := pfo e23 Tryz.func23 (by kernel_rfl) (w1_ok (q23 fuX))
noncomputable def s24 (fu : Nat) (cf : CF) (a0 a1 : V) (h : H) (n : Id) (k : KV) : R :=
 evBox a1 h n fun v1 h n =>
 evAlloc tbx 32 h n fun v2 h n =>
 evLoad tbx 24 v1 h fun v3 =>
 evLoad tbx 24 v1 h fun w10 => cond (eqV 6 w10 v3) (
 cf 44 [a0] h n fun v4 h n =>
 evLoad tbx 24 v1 h fun w9 => cond (eqV 6 w9 v3) (
 cf 45 [v4, v3] h n fun v5 h n =>
 evExt 0 v5 fun v6 =>
 evExt 1 v5 fun v7 =>
 evStore tbx 32 v2 v6 h n fun _ h n =>
 evLoad tbx 32 v2 h fun v8 =>
 k (.tp [v8, v7]) h n) none) none
noncomputable def e24 : FE := ⟨Tryz.f24, bd Tryz.f24, [0, 1], [4, 5], (.q .z (.q .z .z))⟩
theorem q24 (fu : Nat) (cf : CF) (a0 a1 : V) (h : H) (n : Id) (k : KV) : evF fu cf e24 [a0, a1] h n k = s24 fu cf a0 a1 h n k := by kernel_rfl
theorem p24 : PfOk Tryz.prog tbx mtab 24 (w2 (s24 fuX)) := pfo e24 Tryz.func24 (by kernel_rfl) (w2_ok (q24 fuX))
noncomputable def s25 (fu : Nat) (cf : CF) (h : H) (n : Id) (k : KV) : R :=
 evBuild tbx 24 [(0, (.s 1 103)), (1, (.s 1 97)), (2, (.s 1 49))] fun v1 =>
 evAlloc tbx 24 h n fun v2 h n =>
 evStore tbx 24 v2 v1 h n fun _ h n =>
 evLoad tbx 24 v2 h fun v3 =>
 evBuild tbx 37 [(0, v3), (1, (.s 85 1184339256951498858731542769906020000302106112437620229852114641216734621829501172671589476439454893703119240558789179231450639601116422937021409059661676399834118908197379844374980474969387754832911365182))] fun v4 =>
 evBuildSl tbx 28 1 [(0, v4)] h n fun v5 h n =>
 cf 23 [v5] h n fun v6 h n =>
 evExt 0 v6 fun v7 =>
 evExt 1 v6 fun v8 =>
 evLoad tbx 24 v2 h fun v9 =>
 cf 24 [v7, v9] h n fun v10 h n =>
 evExt 0 v10 fun v11 =>
 evExt 1 v10 fun v12 =>
 evAlloc tbx 32 h n fun v13 h n =>
 evStore tbx 32 v13 v11 h n fun _ h n =>
 evBuild tbx 24 [(0, (.s 1 103)), (1, (.s 1 98)), (2, (.s 1 49))] fun v14 =>
 cf 24 [v7, v14] h n fun v15 h n =>
 evExt 0 v15 fun v16 =>
 evExt 1 v15 fun v17 =>
 evAlloc tbx 32 h n fun v18 h n =>
 evStore tbx 32 v18 v16 h n fun _ h n =>
 evBin2 tbx .eql 33 v12 (.i .i64 0) fun v19 =>
 jp (fun (v20 : V) h n =>
 jp (fun (v22 : V) h n =>
 jp (fun (v24 : V) h n =>
 evPick v19 v24 (.b false) fun v26 =>
 jp (fun (v27 : V) h n =>
 jp (fun (v29 : V) h n =>
 jp (fun (v31 : V) h n =>
 evPick v26 v31 (.b false) fun v33 =>
 jp (fun (v34 : V) h n =>
 jp (fun (v36 : V) h n =>
 evPick v33 v36 (.b false) fun v38 =>
 k v38 h n) fun kk37 =>
 gdB v33 true ((evBin2 tbx .eql 33 v34 (.i .i64 14) fun v => kk37 v h n)) (kk37 (.tp []) h n)) fun kk35 =>
 gdB v33 true (kk35 v17 h n) (kk35 (.tp []) h n)) fun kk32 =>
 gdB v26 true ((evBin2 tbx .eql 9 v29 (.s 1 49) fun v => kk32 v h n)) (kk32 (.tp []) h n)) fun kk30 =>
 gdB v26 true ((evLoad tbx 9 v27 h fun v => kk30 v h n)) (kk30 (.tp []) h n)) fun kk28 =>
 gdB v26 true ((evFa tbx 32 3 v13 fun v => kk28 v h n)) (kk28 (.tp []) h n)) fun kk25 =>
 gdB v19 true ((evBin2 tbx .eql 9 v22 (.s 3 6971762) fun v => kk25 v h n)) (kk25 (.tp []) h n)) fun kk23 =>
 gdB v19 true ((evLoad tbx 9 v20 h fun v => kk23 v h n)) (kk23 (.tp []) h n)) fun kk21 =>
 gdB v19 true ((evFa tbx 32 4 v13 fun v => kk21 v h n)) (kk21 (.tp []) h n)
noncomputable def e25 : FE := ⟨Tryz.f25, bd Tryz.f25, [], [0], (.q .z (.q .z (.q .z (.q .z (.q .z (.q .z .z))))))⟩
theorem q25 (fu : Nat) (cf : CF) (h : H) (n : Id) (k : KV) : evF fu cf e25 [] h n k = s25 fu cf h n k := by kernel_rfl
theorem p25 : PfOk Tryz.prog tbx mtab 25 (w0 (s25 fuX)) := pfo e25 Tryz.func25 (by kernel_rfl) (w0_ok (q25 fuX))
noncomputable def s26 (fu : Nat) (cf : CF) (a0 : V) (h : H) (n : Id) (k : KV) : R :=
 evBin2 tbx .add 9 (.s 2 9339) a0 fun v1 =>
 evBin2 tbx .add 9 v1 (.s 1 125) fun v2 =>
 k v2 h n
noncomputable def e26 : FE := ⟨Tryz.f26, bd Tryz.f26, [0], [2], (.q .z (.q .z .z))⟩
theorem q26 (fu : Nat) (cf : CF) (a0 : V) (h : H) (n : Id) (k : KV) : evF fu cf e26 [a0] h n k = s26 fu cf a0 h n k := by kernel_rfl
theorem p26 : PfOk Tryz.prog tbx mtab 26 (w1 (s26 fuX)) := pfo e26 Tryz.func26 (by kernel_rfl) (w1_ok (q26 fuX))
noncomputable def s31 (fu : Nat) (cf : CF) (a0 : V) (h : H) (n : Id) (k : KV) : R :=
 evBox a0 h n fun v1 h n =>
 evFa tbx 32 0 v1 fun v2 =>
 evLoad tbx 24 v2 h fun v3 =>
 evAlloc tbx 24 h n fun v4 h n =>
 evStore tbx 24 v4 v3 h n fun _ h n =>
 evFa tbx 24 0 v4 fun v5 =>
 evLoad tbx 9 v5 h fun v6 =>
 evFa tbx 24 1 v4 fun v7 =>
 evLoad tbx 9 v7 h fun v8 =>
 evFa tbx 24 2 v4 fun v9 =>
 evLoad tbx 9 v9 h fun v10 =>
 evFa tbx 32 1 v1 fun v11 =>
 evLoad tbx 9 v11 h fun v12 =>
 evFa tbx 32 2 v1 fun v13 =>
 evLoad tbx 9 v13 h fun v14 =>
 evFa tbx 32 3 v1 fun v15 =>
 evLoad tbx 9 v15 h fun v16 =>
 evFa tbx 32 4 v1 fun v17 =>
 evLoad tbx 9 v17 h fun v18 =>
 evBuildSl tbx 71 7 [(0, v6), (1, v8), (2, v10), (3, v12), (4, v14), (5, v16), (6, v18)] h n fun v19 h n =>
 cf 49 [v19] h n fun v20 h n =>
 evUn .not v20 fun v21 =>
 jp (fun (v22 : V) h n =>
 jp (fun (v24 : V) h n =>
 jp (fun (v26 : V) h n =>
 evPick v21 (.b true) v26 fun v28 =>
 jp (fun (v29 : V) h n =>
 jp (fun (v31 : V) h n =>
 jp (fun (v33 : V) h n =>
 jp (fun (v35 : V) h n =>
 evPick v28 (.b true) v35 fun v37 =>
 brB v37 (
 k (.b false) h n) (
 evLoad tbx 24 v4 h fun v38 =>
 evBuild tbx 24 [] fun v39 =>
 evBin2 tbx .neq 24 v38 v39 fun v40 =>
 jp (fun (v41 : V) h n =>
 jp (fun (v43 : V) h n =>
 jp (fun (v45 : V) h n =>
 jp (fun (v47 : V) h n =>
 jp (fun (v49 : V) h n =>
 jp (fun (v51 : V) h n =>
 jp (fun (v53 : V) h n =>
 jp (fun (v55 : V) h n =>
 jp (fun (v57 : V) h n =>
 jp (fun (v59 : V) h n =>
 jp (fun (v61 : V) h n =>
 jp (fun (v63 : V) h n =>
 jp (fun (v65 : V) h n =>
 evPick v40 v65 (.b false) fun v67 =>
 brB v67 (
 k (.b false) h n) (
 jp (fun (s68 : VT [1]) h n =>
 pc s68 fun v70 s71 =>
 evFa tbx 32 6 v70 fun v72 =>
 evLoad tbx 30 v72 h fun v73 =>
 cf 52 [v73] h n fun v74 h n =>
 jp (fun (v75 : V) h n =>
 jp (fun (v77 : V) h n =>
 jp (fun (v79 : V) h n =>
 evPick v74 v79 (.b false) fun v81 =>
 k v81 h n) fun kk80 =>
 gdB v74 true ((cf 52 [v77] h n kk80)) (kk80 (.tp []) h n)) fun kk78 =>
 gdB v74 true ((evLoad tbx 30 v75 h fun v => kk78 v h n)) (kk78 (.tp []) h n)) fun kk76 =>
 gdB v74 true ((evFa tbx 32 7 v70 fun v => kk76 v h n)) (kk76 (.tp []) h n)) fun kk69 =>
 lpC [1, 4] (fun lo83 s82 h n =>
 pc s82 fun v84 s85 =>
 pc s85 fun v86 s87 =>
 evFa tbx 32 5 v84 fun v88 =>
 evLoad tbx 29 v88 h fun v89 =>
 evLen tbx 29 v89 fun v90 =>
 evBin2 tbx .lss 3 v86 v90 fun v91 =>
 brB v91 (
 jp (fun (s92 : VT [1, 4]) h n =>
 pc s92 fun v94 s95 =>
 pc s95 fun v96 s97 =>
 evBin2 tbx .add 3 v96 (.i .i64 1) fun v98 =>
 lo83 (v94, v98, ()) h n) fun kk93 =>
 evFa tbx 32 5 v84 fun v99 =>
 evLoad tbx 29 v99 h fun v100 =>
 evIa tbx 29 v100 v86 fun v101 =>
 evFa tbx 57 0 v101 fun v102 =>
 evLoad tbx 9 v102 h fun v103 =>
 cf 50 [v103] h n fun v104 h n =>
 evUn .not v104 fun v105 =>
 jp (fun (v106 : V) h n =>
 jp (fun (v108 : V) h n =>
 jp (fun (v110 : V) h n =>
 jp (fun (v112 : V) h n =>
 jp (fun (v114 : V) h n =>
 jp (fun (v116 : V) h n =>
 jp (fun (v118 : V) h n =>
 jp (fun (v120 : V) h n =>
 evPick v105 (.b true) v120 fun v122 =>
 brB v122 (
 k (.b false) h n) (
 jp (fun (s123 : VT [1, 4]) h n =>
 pc s123 fun v125 s126 =>
 pc s126 fun v127 s128 =>
 kk93 (v125, v127, ()) h n) fun kk124 =>
 lpC [1, 4, 5] (fun lo130 s129 h n =>
 pc s129 fun v131 s132 =>
 pc s132 fun v133 s134 =>
 pc s134 fun v135 s136 =>
 evBin2 tbx .lss 3 v135 v133 fun v137 =>
 brB v137 (
 jp (fun (s138 : VT [1, 4, 5]) h n =>
 pc s138 fun v140 s141 =>
 pc s141 fun v142 s143 =>
 pc s143 fun v144 s145 =>
 evBin2 tbx .add 3 v144 (.i .i64 1) fun v146 =>
 lo130 (v140, v142, v146, ()) h n) fun kk139 =>
 evFa tbx 32 5 v131 fun v147 =>
 evLoad tbx 29 v147 h fun v148 =>
 evIa tbx 29 v148 v135 fun v149 =>
 evFa tbx 57 0 v149 fun v150 =>
 evLoad tbx 9 v150 h fun v151 =>
 evFa tbx 32 5 v131 fun v152 =>
 evLoad tbx 29 v152 h fun v153 =>
 evIa tbx 29 v153 v133 fun v154 =>
 evFa tbx 57 0 v154 fun v155 =>
 evLoad tbx 9 v155 h fun v156 =>
 evBin2 tbx .eql 9 v151 v156 fun v157 =>
 evLoad tbx 29 v147 h fun w161 => cond (eqV 6 w161 v148) (
 evLoad tbx 9 v150 h fun w160 => cond (eqV 6 w160 v151) (
 evLoad tbx 29 v152 h fun w159 => cond (eqV 6 w159 v153) (
 evLoad tbx 9 v155 h fun w158 => cond (eqV 6 w158 v156) (
 brB v157 (
 k (.b false) h n) (
 kk139 (v131, v133, v135, ()) h n)) none) none) none) none) (
 kk124 (v131, v133, ()) h n)) fu (v84, v86, (.i .i64 0), ()) h n)) fun kk121 =>
 gdB v105 false ((evUn .not v118 fun v => kk121 v h n)) (kk121 (.tp []) h n)) fun kk119 =>
 gdB v105 false ((cf 51 [v116] h n kk119)) (kk119 (.tp []) h n)) fun kk117 =>
 gdB v105 false ((evLoad tbx 9 v114 h fun v => kk117 v h n)) (kk117 (.tp []) h n)) fun kk115 =>
 gdB v105 false ((evFa tbx 57 1 v112 fun v => kk115 v h n)) (kk115 (.tp []) h n)) fun kk113 =>
 gdB v105 false ((evIa tbx 29 v108 v110 fun v => kk113 v h n)) (kk113 (.tp []) h n)) fun kk111 =>
 gdB v105 false (kk111 v86 h n) (kk111 (.tp []) h n)) fun kk109 =>
 gdB v105 false ((evLoad tbx 29 v106 h fun v => kk109 v h n)) (kk109 (.tp []) h n)) fun kk107 =>
 gdB v105 false ((evFa tbx 32 5 v84 fun v => kk107 v h n)) (kk107 (.tp []) h n)) (
 kk69 (v84, ()) h n)) fu (v1, (.i .i64 0), ()) h n)) fun kk66 =>
 gdB v40 true ((evPick v57 (.b true) v63 fun v => kk66 v h n)) (kk66 (.tp []) h n)) fun kk64 =>
 gdB v57 false ((evBin2 tbx .eql 9 v61 (.s 0 0) fun v => kk64 v h n)) (kk64 (.tp []) h n)) fun kk62 =>
 gdB v57 false ((evLoad tbx 9 v59 h fun v => kk62 v h n)) (kk62 (.tp []) h n)) fun kk60 =>
 gdB v57 false ((evFa tbx 24 2 v4 fun v => kk60 v h n)) (kk60 (.tp []) h n)) fun kk58 =>
 gdB v40 true (kk58 v55 h n) (kk58 (.tp []) h n)) fun kk56 =>
 gdB v40 true ((evPick v47 (.b true) v53 fun v => kk56 v h n)) (kk56 (.tp []) h n)) fun kk54 =>
 gdB v47 false ((evBin2 tbx .eql 9 v51 (.s 0 0) fun v => kk54 v h n)) (kk54 (.tp []) h n)) fun kk52 =>
 gdB v47 false ((evLoad tbx 9 v49 h fun v => kk52 v h n)) (kk52 (.tp []) h n)) fun kk50 =>
 gdB v47 false ((evFa tbx 24 1 v4 fun v => kk50 v h n)) (kk50 (.tp []) h n)) fun kk48 =>
 gdB v40 true (kk48 v45 h n) (kk48 (.tp []) h n)) fun kk46 =>
 gdB v40 true ((evBin2 tbx .eql 9 v43 (.s 0 0) fun v => kk46 v h n)) (kk46 (.tp []) h n)) fun kk44 =>
 gdB v40 true ((evLoad tbx 9 v41 h fun v => kk44 v h n)) (kk44 (.tp []) h n)) fun kk42 =>
 gdB v40 true ((evFa tbx 24 0 v4 fun v => kk42 v h n)) (kk42 (.tp []) h n))) fun kk36 =>
 gdB v28 false ((evBin2 tbx .gtr 3 v33 (.i .i64 100) fun v => kk36 v h n)) (kk36 (.tp []) h n)) fun kk34 =>
 gdB v28 false ((evLen tbx 29 v31 fun v => kk34 v h n)) (kk34 (.tp []) h n)) fun kk32 =>
 gdB v28 false ((evLoad tbx 29 v29 h fun v => kk32 v h n)) (kk32 (.tp []) h n)) fun kk30 =>
 gdB v28 false ((evFa tbx 32 5 v1 fun v => kk30 v h n)) (kk30 (.tp []) h n)) fun kk27 =>
 gdB v21 false ((evBin2 tbx .eql 9 v24 (.s 0 0) fun v => kk27 v h n)) (kk27 (.tp []) h n)) fun kk25 =>
 gdB v21 false ((evLoad tbx 9 v22 h fun v => kk25 v h n)) (kk25 (.tp []) h n)) fun kk23 =>
 gdB v21 false ((evFa tbx 32 2 v1 fun v => kk23 v h n)) (kk23 (.tp []) h n)
noncomputable def e31 : FE := ⟨Tryz.f31, bd Tryz.f31, [0], [2], (.q .z (.q .z (.q (.q .z (.c (.q .z .z) .z)) (.q (.q .z (.c (.q .z .z) .z)) (.q (.q .z (.b [1] (.l [1, 4] (.q (.q .z (.c .z .z)) (.q (.b [1, 4] (.q (.q .z (.c (.q .z .z) .z)) (.q .z (.b [1, 4] (.l [1, 4, 5] (.q (.q .z (.c .z .z)) (.q (.b [1, 4, 5] (.q .z (.c (.q .z .z) .z))) .z))))))) .z))))) (.q .z .z))))))⟩
theorem q31 (fu : Nat) (cf : CF) (a0 : V) (h : H) (n : Id) (k : KV) : evF fu cf e31 [a0] h n k = s31 fu cf a0 h n k := by kernel_rfl
theorem p31 : PfOk Tryz.prog tbx mtab 31 (w1 (s31 fuX)) := pfo e31 Tryz.func31 (by kernel_rfl) (w1_ok (q31 fuX))
noncomputable def s32 (fu : Nat) (cf : CF) (a0 a1 : V) (h : H) (n : Id) (k : KV) : R :=
 evBin2 tbx .eql 9 a1 (.s 0 0) fun v1 =>
 brB v1 (
 k (.s 0 0) h n) (
 evBin2 tbx .add 9 (.s 1 60) a0 fun v2 =>
 evBin2 tbx .add 9 v2 (.s 1 62) fun v3 =>
 evBin2 tbx .add 9 v3 a1 fun v4 =>
 evBin2 tbx .add 9 v4 (.s 2 15407) fun v5 =>
 evBin2 tbx .add 9 v5 a0 fun v6 =>
 evBin2 tbx .add 9 v6 (.s 1 62) fun v7 =>
 k v7 h n)
noncomputable def e32 : FE := ⟨Tryz.f32, bd Tryz.f32, [0, 1], [4], (.q .z (.q (.q .z (.c (.q .z .z) .z)) (.q .z .z)))⟩
theorem q32 (fu : Nat) (cf : CF) (a0 a1 : V) (h : H) (n : Id) (k : KV) : evF fu cf e32 [a0, a1] h n k = s32 fu cf a0 a1 h n k := by kernel_rfl
theorem p32 : PfOk Tryz.prog tbx mtab 32 (w2 (s32 fuX)) := pfo e32 Tryz.func32 (by kernel_rfl) (w2_ok (q32 fuX))
noncomputable def s33 (fu : Nat) (cf : CF) (a0 a1 : V) (h : H) (n : Id) (k : KV) : R :=
 cf 34 [a1] h n fun v1 h n =>
 cf 32 [a0, v1] h n fun v2 h n =>
 k v2 h n
noncomputable def e33 : FE := ⟨Tryz.f33, bd Tryz.f33, [0, 1], [4], (.q .z (.q .z .z))⟩
theorem q33 (fu : Nat) (cf : CF) (a0 a1 : V) (h : H) (n : Id) (k : KV) : evF fu cf e33 [a0, a1] h n k = s33 fu cf a0 a1 h n k := by kernel_rfl
theorem p33 : PfOk Tryz.prog tbx mtab 33 (w2 (s33 fuX)) := pfo e33 Tryz.func33 (by kernel_rfl) (w2_ok (q33 fuX))
noncomputable def s34 (fu : Nat) (cf : CF) (a0 : V) (h : H) (n : Id) (k : KV) : R :=
 jp (fun (s1 : VT [3]) h n =>
 pc s1 fun v3 s4 =>
 evConv2 tbx mtab 73 9 v3 h n fun v5 h n =>
 k v5 h n) fun kk2 =>
 lpC [0, 3, 4] (fun lo7 s6 h n =>
 pc s6 fun v8 s9 =>
 pc s9 fun v10 s11 =>
 pc s11 fun v12 s13 =>
 evLen tbx 9 v8 fun v14 =>
 evBin2 tbx .lss 3 v12 v14 fun v15 =>
 brB v15 (
 jp (fun (s16 : VT [0, 3, 4]) h n =>
 pc s16 fun v18 s19 =>
 pc s19 fun v20 s21 =>
 pc s21 fun v22 s23 =>
 evBin2 tbx .add 3 v22 (.i .i64 1) fun v24 =>
 lo7 (v18, v20, v24, ()) h n) fun kk17 =>
 evIx tbx 9 v8 v12 fun v25 =>
 jp (fun (s26 : VT [0, 3, 4]) h n =>
 pc s26 fun v28 s29 =>
 pc s29 fun v30 s31 =>
 pc s31 fun v32 s33 =>
 kk17 (v28, v30, v32, ()) h n) fun kk27 =>
 evBin2 tbx .eql 5 v25 (.i .u8 38) fun v34 =>
 brB v34 (
 evApp tbx 73 9 v10 (.s 5 164843319355) h n fun v35 h n =>
 kk27 (v8, v35, v12, ()) h n) (
 evBin2 tbx .eql 5 v25 (.i .u8 60) fun v36 =>
 brB v36 (
 evApp tbx 73 9 v10 (.s 4 644641851) h n fun v37 h n =>
 kk27 (v8, v37, v12, ()) h n) (
 evBin2 tbx .eql 5 v25 (.i .u8 62) fun v38 =>
 brB v38 (
 evApp tbx 73 9 v10 (.s 4 644314171) h n fun v39 h n =>
 kk27 (v8, v39, v12, ()) h n) (
 evBin2 tbx .eql 5 v25 (.i .u8 34) fun v40 =>
 brB v40 (
 evApp tbx 73 9 v10 (.s 6 42268743398459) h n fun v41 h n =>
 kk27 (v8, v41, v12, ()) h n) (
 evIx tbx 9 v8 v12 fun v42 =>
 evBuildSl tbx 73 1 [(0, v42)] h n fun v43 h n =>
 evApp tbx 73 73 v10 v43 h n fun v44 h n =>
 kk27 (v8, v44, v12, ()) h n))))) (
 kk2 (v10, ()) h n)) fu (a0, .ns, (.i .i64 0), ()) h n
noncomputable def e34 : FE := ⟨Tryz.f34, bd Tryz.f34, [0], [2], (.q .z (.q .z (.q (.q .z (.b [3] (.l [0, 3, 4] (.q (.q .z (.c .z .z)) (.q (.b [0, 3, 4] (.q .z (.b [0, 3, 4] (.q .z (.c .z (.q .z (.c .z (.q .z (.c .z (.q .z (.c .z .z))))))))))) .z))))) (.q .z .z))))⟩
theorem q34 (fu : Nat) (cf : CF) (a0 : V) (h : H) (n : Id) (k : KV) : evF fu cf e34 [a0] h n k = s34 fu cf a0 h n k := by kernel_rfl
theorem p34 : PfOk Tryz.prog tbx mtab 34 (w1 (s34 fuX)) := pfo e34 Tryz.func34 (by kernel_rfl) (w1_ok (q34 fuX))
noncomputable def s35 (fu : Nat) (cf : CF) (a0 : V) (h : H) (n : Id) (k : KV) : R :=
 jp (fun (s1 : VT [3]) h n =>
 pc s1 fun v3 s4 =>
 cf 32 [(.s 12 31071133266037411630683874675), v3] h n fun v5 h n =>
 k v5 h n) fun kk2 =>
 lpC [0, 3, 4] (fun lo7 s6 h n =>
 pc s6 fun v8 s9 =>
 pc s9 fun v10 s11 =>
 pc s11 fun v12 s13 =>
 evLen tbx 30 v8 fun v14 =>
 evBin2 tbx .lss 3 v12 v14 fun v15 =>
 brB v15 (
 jp (fun (s16 : VT [0, 3, 4]) h n =>
 pc s16 fun v18 s19 =>
 pc s19 fun v20 s21 =>
 pc s21 fun v22 s23 =>
 evBin2 tbx .add 3 v22 (.i .i64 1) fun v24 =>
 lo7 (v18, v20, v24, ()) h n) fun kk17 =>
 evIa tbx 30 v8 v12 fun v25 =>
 evLoad tbx 51 v25 h fun v26 =>
 evAlloc tbx 51 h n fun v27 h n =>
 evStore tbx 51 v27 v26 h n fun _ h n =>
 evFa tbx 51 0 v27 fun v28 =>
 evLoad tbx 9 v28 h fun v29 =>
 evFa tbx 51 1 v27 fun v30 =>
 evLoad tbx 9 v30 h fun v31 =>
 evFa tbx 51 2 v27 fun v32 =>
 evLoad tbx 9 v32 h fun v33 =>
 evFa tbx 51 3 v27 fun v34 =>
 evLoad tbx 9 v34 h fun v35 =>
 evFa tbx 51 4 v27 fun v36 =>
 evLoad tbx 9 v36 h fun v37 =>
 evFa tbx 51 5 v27 fun v38 =>
 evLoad tbx 9 v38 h fun v39 =>
 evLoad tbx 9 v28 h fun w161 => cond (eqV 6 w161 v29) (
 evLoad tbx 9 v30 h fun w160 => cond (eqV 6 w160 v31) (
 evLoad tbx 9 v32 h fun w159 => cond (eqV 6 w159 v33) (
 evLoad tbx 9 v34 h fun w158 => cond (eqV 6 w158 v35) (
 evLoad tbx 9 v36 h fun w157 => cond (eqV 6 w157 v37) (
 evLoad tbx 9 v38 h fun w156 => cond (eqV 6 w156 v39) (
 cf 33 [(.s 7 29117745638426980), v29] h n fun v40 h n =>
 evLoad tbx 9 v30 h fun w155 => cond (eqV 6 w155 v31) (
 evLoad tbx 9 v32 h fun w154 => cond (eqV 6 w154 v33) (
 evLoad tbx 9 v34 h fun w153 => cond (eqV 6 w153 v35) (
 evLoad tbx 9 v36 h fun w152 => cond (eqV 6 w152 v37) (
 evLoad tbx 9 v38 h fun w151 => cond (eqV 6 w151 v39) (
 cf 33 [(.s 10 460180866011107895298404), v31] h n fun v41 h n =>
 evBin2 tbx .add 9 v40 v41 fun v42 =>
 evLoad tbx 9 v32 h fun w150 => cond (eqV 6 w150 v33) (
 evLoad tbx 9 v34 h fun w149 => cond (eqV 6 w149 v35) (
 evLoad tbx 9 v36 h fun w148 => cond (eqV 6 w148 v37) (
 evLoad tbx 9 v38 h fun w147 => cond (eqV 6 w147 v39) (
 cf 33 [(.s 7 33325589488824174), v33] h n fun v43 h n =>
 evBin2 tbx .add 9 v42 v43 fun v44 =>
 evLoad tbx 9 v34 h fun w146 => cond (eqV 6 w146 v35) (
 evLoad tbx 9 v36 h fun w145 => cond (eqV 6 w145 v37) (
 evLoad tbx 9 v38 h fun w144 => cond (eqV 6 w144 v39) (
 cf 33 [(.s 4 1954115685), v35] h n fun v45 h n =>
 evBin2 tbx .add 9 v44 v45 fun v46 =>
 evLoad tbx 9 v36 h fun w143 => cond (eqV 6 w143 v37) (
 evLoad tbx 9 v38 h fun w142 => cond (eqV 6 w142 v39) (
 cf 33 [(.s 10 469513552247196035409266), v37] h n fun v47 h n =>
 evBin2 tbx .add 9 v46 v47 fun v48 =>
 evLoad tbx 9 v38 h fun w141 => cond (eqV 6 w141 v39) (
 cf 33 [(.s 5 495589486693), v39] h n fun v49 h n =>
 evBin2 tbx .add 9 v48 v49 fun v50 =>
 jp (fun (s51 : VT [0, 3, 4, 5, 6]) h n =>
 pc s51 fun v53 s54 =>
 pc s54 fun v55 s56 =>
 pc s56 fun v57 s58 =>
 pc s58 fun v59 s60 =>
 pc s60 fun v61 s62 =>
 jp (fun (s63 : VT [0, 3, 4, 6, 7]) h n =>
 pc s63 fun v65 s66 =>
 pc s66 fun v67 s68 =>
 pc s68 fun v69 s70 =>
 pc s70 fun v71 s72 =>
 pc s72 fun v73 s74 =>
 cf 32 [(.s 10 479179788288925102993011), v73] h n fun v75 h n =>
 evBin2 tbx .add 9 v71 v75 fun v76 =>
 cf 32 [(.s 10 474107868439291559306105), v76] h n fun v77 h n =>
 evBin2 tbx .add 9 v67 v77 fun v78 =>
 kk17 (v65, v78, v69, ()) h n) fun kk64 =>
 lpC [0, 3, 4, 5, 6, 7, 8] (fun lo80 s79 h n =>
 pc s79 fun v81 s82 =>
 pc s82 fun v83 s84 =>
 pc s84 fun v85 s86 =>
 pc s86 fun v87 s88 =>
 pc s88 fun v89 s90 =>
 pc s90 fun v91 s92 =>
 pc s92 fun v93 s94 =>
 evFa tbx 51 7 v87 fun v95 =>
 evLoad tbx 49 v95 h fun v96 =>
 evLen tbx 49 v96 fun v97 =>
 evBin2 tbx .lss 3 v93 v97 fun v98 =>
 brB v98 (
 jp (fun (s99 : VT [0, 3, 4, 5, 6, 7, 8]) h n =>
 pc s99 fun v101 s102 =>
 pc s102 fun v103 s104 =>
 pc s104 fun v105 s106 =>
 pc s106 fun v107 s108 =>
 pc s108 fun v109 s110 =>
 pc s110 fun v111 s112 =>
 pc s112 fun v113 s114 =>
 evBin2 tbx .add 3 v113 (.i .i64 1) fun v115 =>
 lo80 (v101, v103, v105, v107, v109, v111, v115, ()) h n) fun kk100 =>
 evFa tbx 51 7 v87 fun v116 =>
 evLoad tbx 49 v116 h fun v117 =>
 evIa tbx 49 v117 v93 fun v118 =>
 evFa tbx 63 0 v118 fun v119 =>
 evLoad tbx 9 v119 h fun v120 =>
 evFa tbx 51 7 v87 fun v121 =>
 evLoad tbx 49 v121 h fun v122 =>
 evIa tbx 49 v122 v93 fun v123 =>
 evFa tbx 63 1 v123 fun v124 =>
 evLoad tbx 9 v124 h fun v125 =>
 evLoad tbx 49 v116 h fun w136 => cond (eqV 6 w136 v117) (
 evLoad tbx 9 v119 h fun w135 => cond (eqV 6 w135 v120) (
 evLoad tbx 49 v121 h fun w134 => cond (eqV 6 w134 v122) (
 evLoad tbx 9 v124 h fun w133 => cond (eqV 6 w133 v125) (
 cf 33 [(.s 7 29117745638426980), v120] h n fun v126 h n =>
 evLoad tbx 49 v121 h fun w132 => cond (eqV 6 w132 v122) (
 evLoad tbx 9 v124 h fun w131 => cond (eqV 6 w131 v125) (
 cf 33 [(.s 10 460180866011107895298404), v125] h n fun v127 h n =>
 evBin2 tbx .add 9 v126 v127 fun v128 =>
 cf 32 [(.s 9 1871796048003613683566), v128] h n fun v129 h n =>
 evBin2 tbx .add 9 v91 v129 fun v130 =>
 kk100 (v81, v83, v85, v87, v89, v130, v93, ()) h n) none) none) none) none) none) none) (
 kk64 (v81, v83, v85, v89, v91, ()) h n)) fu (v53, v55, v57, v59, v61, (.s 0 0), (.i .i64 0), ()) h n) fun kk52 =>
 evFa tbx 51 6 v27 fun v137 =>
 evLoad tbx 4 v137 h fun v138 =>
 brB v138 (
 cf 33 [(.s 8 8030046131791487340), (.s 4 1953658213)] h n fun v139 h n =>
 evBin2 tbx .add 9 v50 v139 fun v140 =>
 kk52 (v8, v10, v12, v27, v140, ()) h n) (
 kk52 (v8, v10, v12, v27, v50, ()) h n)) none) none) none) none) none) none) none) none) none) none) none) none) none) none) none) none) none) none) none) none) none) (
 kk2 (v10, ()) h n)) fu (a0, (.s 0 0), (.i .i64 0), ()) h n
noncomputable def e35 : FE := ⟨Tryz.f35, bd Tryz.f35, [0], [2], (.q .z (.q .z (.q (.q .z (.b [3] (.l [0, 3, 4] (.q (.q .z (.c .z .z)) (.q (.b [0, 3, 4] (.q .z (.q .z (.s [0, 3, 4, 5, 6] (.q .z (.c .z .z)) (.q .z (.q (.q .z (.b [0, 3, 4, 6, 7] (.l [0, 3, 4, 5, 6, 7, 8] (.q (.q .z (.c .z .z)) (.q (.b [0, 3, 4, 5, 6, 7, 8] .z) .z))))) .z)))))) .z))))) (.q .z .z))))⟩
theorem q35 (fu : Nat) (cf : CF) (a0 : V) (h : H) (n : Id) (k : KV) : evF fu cf e35 [a0] h n k = s35 fu cf a0 h n k := by kernel_rfl
theorem p35 : PfOk Tryz.prog tbx mtab 35 (w1 (s35 fuX)) := pfo e35 Tryz.func35 (by kernel_rfl) (w1_ok (q35 fuX))
noncomputable def s36 (fu : Nat) (cf : CF) (a0 a1 : V) (h : H) (n : Id) (k : KV) : R :=
 evLen tbx 79 a0 fun v1 =>
 evConv2 tbx mtab 3 22 v1 h n fun v2 h n =>
 cf 54 [v2] h n fun v3 h n =>
 cf 53 [a0, (.i .i64 0), v1, v3, a1] h n fun v4 h n =>
 k (.tp []) h n
noncomputable def e36 : FE := ⟨Tryz.f36, bd Tryz.f36, [0, 1], [], (.q .z .z)⟩
theorem q36 (fu : Nat) (cf : CF) (a0 a1 : V) (h : H) (n : Id) (k : KV) : evF fu cf e36 [a0, a1] h n k = s36 fu cf a0 a1 h n k := by kernel_rfl
theorem p36 : PfOk Tryz.prog tbx mtab 36 (w2 (s36 fuX)) := pfo e36 Tryz.func36 (by kernel_rfl) (w2_ok (q36 fuX))
noncomputable def s37 (fu : Nat) (cf : CF) (a0 a1 : V) (h : H) (n : Id) (k : KV) : R :=
 evBox a0 h n fun v1 h n =>
 evBox a1 h n fun v2 h n =>
 evFa tbx 24 0 v1 fun v3 =>
 evLoad tbx 9 v3 h fun v4 =>
 evFa tbx 24 0 v2 fun v5 =>
 evLoad tbx 9 v5 h fun v6 =>
 evFa tbx 24 1 v1 fun v7 =>
 evLoad tbx 9 v7 h fun v8 =>
 evFa tbx 24 1 v2 fun v9 =>
 evLoad tbx 9 v9 h fun v10 =>
 evFa tbx 24 2 v1 fun v11 =>
 evLoad tbx 9 v11 h fun v12 =>
 evFa tbx 24 2 v2 fun v13 =>
 evLoad tbx 9 v13 h fun v14 =>
 evFa tbx 24 2 v1 fun v15 =>
 evLoad tbx 9 v15 h fun v16 =>
 evFa tbx 24 2 v2 fun v17 =>
 evLoad tbx 9 v17 h fun v18 =>
 evLoad tbx 9 v3 h fun w44 => cond (eqV 6 w44 v4) (
 evLoad tbx 9 v5 h fun w43 => cond (eqV 6 w43 v6) (
 evLoad tbx 9 v7 h fun w42 => cond (eqV 6 w42 v8) (
 evLoad tbx 9 v9 h fun w41 => cond (eqV 6 w41 v10) (
 evLoad tbx 9 v11 h fun w40 => cond (eqV 6 w40 v12) (
 evLoad tbx 9 v13 h fun w39 => cond (eqV 6 w39 v14) (
 evLoad tbx 9 v15 h fun w38 => cond (eqV 6 w38 v16) (
 evLoad tbx 9 v17 h fun w37 => cond (eqV 6 w37 v18) (
 cf 56 [v4, v6] h n fun v19 h n =>
 evLoad tbx 9 v7 h fun w36 => cond (eqV 6 w36 v8) (
 evLoad tbx 9 v9 h fun w35 => cond (eqV 6 w35 v10) (
 evLoad tbx 9 v11 h fun w34 => cond (eqV 6 w34 v12) (
 evLoad tbx 9 v13 h fun w33 => cond (eqV 6 w33 v14) (
 evLoad tbx 9 v15 h fun w32 => cond (eqV 6 w32 v16) (
 evLoad tbx 9 v17 h fun w31 => cond (eqV 6 w31 v18) (
 cf 56 [v8, v10] h n fun v20 h n =>
 evLoad tbx 9 v11 h fun w30 => cond (eqV 6 w30 v12) (
 evLoad tbx 9 v13 h fun w29 => cond (eqV 6 w29 v14) (
 evLoad tbx 9 v15 h fun w28 => cond (eqV 6 w28 v16) (
 evLoad tbx 9 v17 h fun w27 => cond (eqV 6 w27 v18) (
 cf 57 [v12, v14] h n fun v21 h n =>
 evLoad tbx 9 v15 h fun w26 => cond (eqV 6 w26 v16) (
 evLoad tbx 9 v17 h fun w25 => cond (eqV 6 w25 v18) (
 cf 56 [v16, v18] h n fun v22 h n =>
 evBuildSl tbx 149 4 [(0, v19), (1, v20), (2, v21), (3, v22)] h n fun v23 h n =>
 cf 55 [v23] h n fun v24 h n =>
 k v24 h n) none) none) none) none) none) none) none) none) none) none) none) none) none) none) none) none) none) none) none) none
noncomputable def e37 : FE := ⟨Tryz.f37, bd Tryz.f37, [0, 1], [4], (.q .z (.q .z .z))⟩
theorem q37 (fu : Nat) (cf : CF) (a0 a1 : V) (h : H) (n : Id) (k : KV) : evF fu cf e37 [a0, a1] h n k = s37 fu cf a0 a1 h n k := by kernel_rfl
theorem p37 : PfOk Tryz.prog tbx mtab 37 (w2 (s37 fuX)) := pfo e37 Tryz.func37 (by kernel_rfl) (w2_ok (q37 fuX))
noncomputable def s38 (fu : Nat) (cf : CF) (a0 : V) (h : H) (n : Id) (k : KV) : R :=
 evBox a0 h n fun v1 h n =>
 evFa tbx 24 0 v1 fun v2 =>
 evLoad tbx 9 v2 h fun v3 =>
 cf 58 [v3] h n fun v4 h n =>
 jp (fun (v5 : V) h n =>
 jp (fun (v7 : V) h n =>
 jp (fun (v9 : V) h n =>
 evPick v4 v9 (.b false) fun v11 =>
 jp (fun (v12 : V) h n =>
 jp (fun (v14 : V) h n =>
 jp (fun (v16 : V) h n =>
 evPick v11 v16 (.b false) fun v18 =>
 jp (fun (v19 : V) h n =>
 jp (fun (v21 : V) h n =>
 jp (fun (v23 : V) h n =>
 jp (fun (v25 : V) h n =>
 evPick v18 v25 (.b false) fun v27 =>
 k v27 h n) fun kk26 =>
 gdB v18 true ((evUn .not v23 fun v => kk26 v h n)) (kk26 (.tp []) h n)) fun kk24 =>
 gdB v18 true ((cf 60 [v21, (.s 1 58)] h n kk24)) (kk24 (.tp []) h n)) fun kk22 =>
 gdB v18 true ((evLoad tbx 9 v19 h fun v => kk22 v h n)) (kk22 (.tp []) h n)) fun kk20 =>
 gdB v18 true ((evFa tbx 24 2 v1 fun v => kk20 v h n)) (kk20 (.tp []) h n)) fun kk17 =>
 gdB v11 true ((cf 59 [v14] h n kk17)) (kk17 (.tp []) h n)) fun kk15 =>
 gdB v11 true ((evLoad tbx 9 v12 h fun v => kk15 v h n)) (kk15 (.tp []) h n)) fun kk13 =>
 gdB v11 true ((evFa tbx 24 2 v1 fun v => kk13 v h n)) (kk13 (.tp []) h n)) fun kk10 =>
 gdB v4 true ((cf 58 [v7] h n kk10)) (kk10 (.tp []) h n)) fun kk8 =>
 gdB v4 true ((evLoad tbx 9 v5 h fun v => kk8 v h n)) (kk8 (.tp []) h n)) fun kk6 =>
 gdB v4 true ((evFa tbx 24 1 v1 fun v => kk6 v h n)) (kk6 (.tp []) h n)
noncomputable def e38 : FE := ⟨Tryz.f38, bd Tryz.f38, [0], [2], (.q .z (.q .z .z))⟩
theorem q38 (fu : Nat) (cf : CF) (a0 : V) (h : H) (n : Id) (k : KV) : evF fu cf e38 [a0] h n k = s38 fu cf a0 h n k := by kernel_rfl
theorem p38 : PfOk Tryz.prog tbx mtab 38 (w1 (s38 fuX)) := pfo e38 Tryz.func38 (by kernel_rfl) (w1_ok (q38 fuX))
noncomputable def s39 (fu : Nat) (cf : CF) (a0 a1 : V) (h : H) (n : Id) (k : KV) : R :=
 evBox a1 h n fun v1 h n =>
 evLoad tbx 24 v1 h fun v2 =>
 cf 61 [a0, v2] h n fun v3 h n =>
 evBin2 tbx .geq 3 v3 (.i .i64 0) fun v4 =>
 k v4 h n
noncomputable def e39 : FE := ⟨Tryz.f39, bd Tryz.f39, [0, 1], [4], (.q .z (.q .z .z))⟩
theorem q39 (fu : Nat) (cf : CF) (a0 a1 : V) (h : H) (n : Id) (k : KV) : evF fu cf e39 [a0, a1] h n k = s39 fu cf a0 a1 h n k := by kernel_rfl
theorem p39 : PfOk Tryz.prog tbx mtab 39 (w2 (s39 fuX)) := pfo e39 Tryz.func39 (by kernel_rfl) (w2_ok (q39 fuX))
noncomputable def s40 (fu : Nat) (cf : CF) (a0 a1 : V) (h : H) (n : Id) (k : KV) : R :=
 evBox a1 h n fun v1 h n =>
 evBin2 tbx .eql 27 a0 .np fun v2 =>
 brB v2 (
 k (.tp [(.s 0 0), (.b false)]) h n) (
 evNc' a0 fun v3 =>
 evFa tbx 81 0 v3 fun v4 =>
 evLoad tbx 77 v4 h fun v5 =>
 evLoad tbx 24 v1 h fun v6 =>
 evLook tbx mtab 77 v5 v6 true h fun v7 =>
 evExt 0 v7 fun v8 =>
 evExt 1 v7 fun v9 =>
 evLoad tbx 77 v4 h fun w12 => cond (eqV 6 w12 v5) (
 evLoad tbx 24 v1 h fun w11 => cond (eqV 6 w11 v6) (
 evLook tbx mtab 77 v5 v6 true h fun w10 => cond (eqV 6 w10 v7) (
 k (.tp [v8, v9]) h n) none) none) none)
noncomputable def e40 : FE := ⟨Tryz.f40, bd Tryz.f40, [0, 1], [4, 5], (.q .z (.q (.q .z (.c (.q .z .z) .z)) (.q .z (.q .z .z))))⟩
theorem q40 (fu : Nat) (cf : CF) (a0 a1 : V) (h : H) (n : Id) (k : KV) : evF fu cf e40 [a0, a1] h n k = s40 fu cf a0 a1 h n k := by kernel_rfl
theorem p40 : PfOk Tryz.prog tbx mtab 40 (w2 (s40 fuX)) := pfo e40 Tryz.func40 (by kernel_rfl) (w2_ok (q40 fuX))
noncomputable def s41 (fu : Nat) (cf : CF) (a0 : V) (h : H) (n : Id) (k : KV) : R :=
 evAlloc tbx 32 h n fun v1 h n =>
 cf 62 [a0] h n fun v2 h n =>
 evExt 0 v2 fun v3 =>
 evExt 1 v2 fun v4 =>
 evBin2 tbx .neq 33 v4 (.i .i64 0) fun v5 =>
 brB v5 (
 evBuild tbx 32 [] fun v6 =>
 evStore tbx 32 v1 v6 h n fun _ h n =>
 evLoad tbx 32 v1 h fun v7 =>
 k (.tp [v7, v4]) h n) (
 cf 63 [v3] h n fun v8 h n =>
 evExt 0 v8 fun v9 =>
 evExt 1 v8 fun v10 =>
 evStore tbx 32 v1 v9 h n fun _ h n =>
 evLoad tbx 32 v1 h fun v11 =>
 k (.tp [v11, v10]) h n)
noncomputable def e41 : FE := ⟨Tryz.f41, bd Tryz.f41, [0], [2, 3], (.q .z (.q .z (.q (.q .z (.c (.q .z .z) .z)) (.q .z .z))))⟩
theorem q41 (fu : Nat) (cf : CF) (a0 : V) (h : H) (n : Id) (k : KV) : evF fu cf e41 [a0] h n k = s41 fu cf a0 h n k := by kernel_rfl
theorem p41 : PfOk Tryz.prog tbx mtab 41 (w1 (s41 fuX)) := pfo e41 Tryz.func41 (by kernel_rfl) (w1_ok (q41 fuX))
noncomputable def s42 (fu : Nat) (cf : CF) (a0 : V) (h : H) (n : Id) (k : KV) : R :=
 evLen tbx 71 a0 fun v1 =>
 jp (fun (s2 : VT [3]) h n =>
 pc s2 fun v4 s5 =>
 k v4 h n) fun kk3 =>
 lpC [3, 6, 7, 8] (fun lo7 s6 h n =>
 pc s6 fun v8 s9 =>
 pc s9 fun v10 s11 =>
 pc s11 fun v12 s13 =>
 pc s13 fun v14 s15 =>
 evBin2 tbx .lss 3 v14 v12 fun v16 =>
 brB v16 (
 jp (fun (s17 : VT [3, 6, 7, 8]) h n =>
 pc s17 fun v19 s20 =>
 pc s20 fun v21 s22 =>
 pc s22 fun v23 s24 =>
 pc s24 fun v25 s26 =>
 evBin2 tbx .add 3 v25 (.i .i64 1) fun v27 =>
 lo7 (v19, v21, v23, v27, ()) h n) fun kk18 =>
 evIa tbx 71 v10 v14 fun v28 =>
 evLoad tbx 9 v28 h fun v29 =>
 evBin2 tbx .neq 9 v29 v8 fun v30 =>
 brB v30 (
 k v29 h n) (
 kk18 (v8, v10, v12, v14, ()) h n)) (
 kk3 (v8, ()) h n)) fu ((.s 0 0), a0, v1, (.i .i64 0), ()) h n
noncomputable def e42 : FE := ⟨Tryz.f42, bd Tryz.f42, [0], [2], (.q .z (.q .z (.q (.q .z (.b [3] (.l [3, 6, 7, 8] (.q .z (.q (.c .z .z) (.q (.b [3, 6, 7, 8] (.q .z (.q .z (.c (.q .z .z) .z)))) .z)))))) (.q .z .z))))⟩
theorem q42 (fu : Nat) (cf : CF) (a0 : V) (h : H) (n : Id) (k : KV) : evF fu cf e42 [a0] h n k = s42 fu cf a0 h n k := by kernel_rfl
theorem p42 : PfOk Tryz.prog tbx mtab 42 (w1 (s42 fuX)) := pfo e42 Tryz.func42 (by kernel_rfl) (w1_ok (q42 fuX))
noncomputable def s43 (fu : Nat) (cf : CF) (a0 : V) (h : H) (n : Id) (k : KV) : R :=
 evLen tbx 28 a0 fun v1 =>
 evBin2 tbx .gtr 3 v1 (.i .i64 300) fun v2 =>
 brB v2 (
 k (.tp [.np, (.i .i64 3)]) h n) (
 jp (fun (s3 : VT [0]) h n =>
 pc s3 fun v5 s6 =>
 evApp tbx 28 28 .ns v5 h n fun v7 h n =>
 evBuild tbx 119 [(0, v7)] fun v8 =>
 evBox v8 h n fun v9 h n =>
 k (.tp [v9, (.i .i64 0)]) h n) fun kk4 =>
 lpC [0, 4] (fun lo11 s10 h n =>
 pc s10 fun v12 s13 =>
 pc s13 fun v14 s15 =>
 evLen tbx 28 v12 fun v16 =>
 evBin2 tbx .lss 3 v14 v16 fun v17 =>
 brB v17 (
 jp (fun (s18 : VT [0, 4]) h n =>
 pc s18 fun v20 s21 =>
 pc s21 fun v22 s23 =>
 evBin2 tbx .add 3 v22 (.i .i64 1) fun v24 =>
 lo11 (v20, v24, ()) h n) fun kk19 =>
 evIa tbx 28 v12 v14 fun v25 =>
 evFa tbx 37 0 v25 fun v26 =>
 evLoad tbx 24 v26 h fun v27 =>
 cf 64 [v27] h n fun v28 h n =>
 evUn .not v28 fun v29 =>
 brB v29 (
 k (.tp [.np, (.i .i64 1)]) h n) (
 jp (fun (s30 : VT [0, 4]) h n =>
 pc s30 fun v32 s33 =>
 pc s33 fun v34 s35 =>
 kk19 (v32, v34, ()) h n) fun kk31 =>
 lpC [0, 4, 5] (fun lo37 s36 h n =>
 pc s36 fun v38 s39 =>
 pc s39 fun v40 s41 =>
 pc s41 fun v42 s43 =>
 evBin2 tbx .lss 3 v42 v40 fun v44 =>
 brB v44 (
 jp (fun (s45 : VT [0, 4, 5]) h n =>
 pc s45 fun v47 s48 =>
 pc s48 fun v49 s50 =>
 pc s50 fun v51 s52 =>
 evBin2 tbx .add 3 v51 (.i .i64 1) fun v53 =>
 lo37 (v47, v49, v53, ()) h n) fun kk46 =>
 evIa tbx 28 v38 v42 fun v54 =>
 evFa tbx 37 0 v54 fun v55 =>
 evLoad tbx 24 v55 h fun v56 =>
 evIa tbx 28 v38 v40 fun v57 =>
 evFa tbx 37 0 v57 fun v58 =>
 evLoad tbx 24 v58 h fun v59 =>
 evBin2 tbx .eql 24 v56 v59 fun v60 =>
 evLoad tbx 24 v55 h fun w62 => cond (eqV 6 w62 v56) (
 evLoad tbx 24 v58 h fun w61 => cond (eqV 6 w61 v59) (
 brB v60 (
 k (.tp [.np, (.i .i64 9)]) h n) (
 kk46 (v38, v40, v42, ()) h n)) none) none) (
 kk31 (v38, v40, ()) h n)) fu (v12, v14, (.i .i64 0), ()) h n)) (
 kk4 (v12, ()) h n)) fu (a0, (.i .i64 0), ()) h n)
noncomputable def e43 : FE := ⟨Tryz.f43, bd Tryz.f43, [0], [2, 3], (.q .z (.q (.q .z (.c (.q .z .z) .z)) (.q (.q .z (.b [0] (.l [0, 4] (.q (.q .z (.c .z .z)) (.q (.b [0, 4] (.q (.q .z (.c (.q .z .z) .z)) (.q .z (.b [0, 4] (.l [0, 4, 5] (.q (.q .z (.c .z .z)) (.q (.b [0, 4, 5] (.q .z (.c (.q .z .z) .z))) .z))))))) .z))))) (.q .z .z))))⟩
theorem q43 (fu : Nat) (cf : CF) (a0 : V) (h : H) (n : Id) (k : KV) : evF fu cf e43 [a0] h n k = s43 fu cf a0 h n k := by kernel_rfl
theorem p43 : PfOk Tryz.prog tbx mtab 43 (w1 (s43 fuX)) := pfo e43 Tryz.func43 (by kernel_rfl) (w1_ok (q43 fuX))
noncomputable def s44 (fu : Nat) (cf : CF) (a0 : V) (h : H) (n : Id) (k : KV) : R :=
 evMkMap h n fun v1 h n =>
 evBuild tbx 122 [(0, a0), (1, v1)] fun v2 =>
 evBox v2 h n fun v3 h n =>
 k v3 h n
noncomputable def e44 : FE := ⟨Tryz.f44, bd Tryz.f44, [0], [2], (.q .z (.q .z .z))⟩
theorem q44 (fu : Nat) (cf : CF) (a0 : V) (h : H) (n : Id) (k : KV) : evF fu cf e44 [a0] h n k = s44 fu cf a0 h n k := by kernel_rfl
theorem p44 : PfOk Tryz.prog tbx mtab 44 (w1 (s44 fuX)) := pfo e44 Tryz.func44 (by kernel_rfl) (w1_ok (q44 fuX))
noncomputable def s45 (fu : Nat) (cf : CF) (a0 a1 : V) (h : H) (n : Id) (k : KV) : R :=
 evBox a1 h n fun v1 h n =>
 evAlloc tbx 32 h n fun v2 h n =>
 evLoad tbx 24 v1 h fun v3 =>
 cf 65 [a0, v3, .ns] h n fun v4 h n =>
 evExt 0 v4 fun v5 =>
 evExt 1 v4 fun v6 =>
 evAlloc tbx 124 h n fun v7 h n =>
 evStore tbx 124 v7 v5 h n fun _ h n =>
 evBin2 tbx .neq 33 v6 (.i .i64 0) fun v8 =>
 brB v8 (
 evBuild tbx 32 [] fun v9 =>
 evStore tbx 32 v2 v9 h n fun _ h n =>
 evLoad tbx 32 v2 h fun v10 =>
 k (.tp [v10, v6]) h n) (
 evFa tbx 124 0 v7 fun v11 =>
 evLoad tbx 32 v11 h fun v12 =>
 evAlloc tbx 32 h n fun v13 h n =>
 evStore tbx 32 v13 v12 h n fun _ h n =>
 evFa tbx 32 5 v13 fun v14 =>
 evLoad tbx 29 v14 h fun v15 =>
 evFa tbx 32 6 v13 fun v16 =>
 evLoad tbx 30 v16 h fun v17 =>
 evFa tbx 32 7 v13 fun v18 =>
 evLoad tbx 30 v18 h fun v19 =>
 evLoad tbx 29 v14 h fun w33 => cond (eqV 6 w33 v15) (
 evLoad tbx 30 v16 h fun w32 => cond (eqV 6 w32 v17) (
 evLoad tbx 30 v18 h fun w31 => cond (eqV 6 w31 v19) (
 cf 66 [v15] h n fun v20 h n =>
 evFa tbx 32 5 v13 fun v21 =>
 evLoad tbx 30 v16 h fun w30 => cond (eqV 6 w30 v17) (
 evLoad tbx 30 v18 h fun w29 => cond (eqV 6 w29 v19) (
 cf 67 [v17] h n fun v22 h n =>
 evLoad tbx 30 v18 h fun w28 => cond (eqV 6 w28 v19) (
 cf 67 [v19] h n fun v23 h n =>
 evStore tbx 29 v21 v20 h n fun _ h n =>
 evFa tbx 32 6 v13 fun v24 =>
 evStore tbx 30 v24 v22 h n fun _ h n =>
 evFa tbx 32 7 v13 fun v25 =>
 evStore tbx 30 v25 v23 h n fun _ h n =>
 evLoad tbx 32 v13 h fun v26 =>
 evStore tbx 32 v2 v26 h n fun _ h n =>
 evLoad tbx 32 v2 h fun v27 =>
 k (.tp [v27, (.i .i64 0)]) h n) none) none) none) none) none) none)
noncomputable def e45 : FE := ⟨Tryz.f45, bd Tryz.f45, [0, 1], [4, 5], (.q .z (.q .z (.q (.q .z (.c (.q .z .z) .z)) (.q .z (.q .z (.q .z .z))))))⟩
theorem q45 (fu : Nat) (cf : CF) (a0 a1 : V) (h : H) (n : Id) (k : KV) : evF fu cf e45 [a0, a1] h n k = s45 fu cf a0 a1 h n k := by kernel_rfl
theorem p45 : PfOk Tryz.prog tbx mtab 45 (w2 (s45 fuX)) := pfo e45 Tryz.func45 (by kernel_rfl) (w2_ok (q45 fuX))
noncomputable def s46 (fu : Nat) (cf : CF) (a0 : V) (h : H) (n : Id) (k : KV) : R :=
 evBox a0 h n fun v1 h n =>
 evFa tbx 51 0 v1 fun v2 =>
 evLoad tbx 9 v2 h fun v3 =>
 evBin2 tbx .add 9 v3 (.s 1 58) fun v4 =>
 evFa tbx 51 1 v1 fun v5 =>
 evLoad tbx 9 v5 h fun v6 =>
 evBin2 tbx .add 9 v4 v6 fun v7 =>
 evBin2 tbx .add 9 v7 (.s 1 58) fun v8 =>
 evFa tbx 51 3 v1 fun v9 =>
 evLoad tbx 9 v9 h fun v10 =>
 evFa tbx 51 4 v1 fun v11 =>
 evLoad tbx 9 v11 h fun v12 =>
 evLoad tbx 9 v2 h fun w27 => cond (eqV 6 w27 v3) (
 evLoad tbx 9 v5 h fun w26 => cond (eqV 6 w26 v6) (
 evLoad tbx 9 v9 h fun w25 => cond (eqV 6 w25 v10) (
 evLoad tbx 9 v11 h fun w24 => cond (eqV 6 w24 v12) (
 evBuildSl tbx 71 2 [(0, v10), (1, (.s 3 6971762))] h n fun v13 h n =>
 evLoad tbx 9 v2 h fun w23 => cond (eqV 6 w23 v3) (
 evLoad tbx 9 v5 h fun w22 => cond (eqV 6 w22 v6) (
 evLoad tbx 9 v11 h fun w21 => cond (eqV 6 w21 v12) (
 cf 42 [v13] h n fun v14 h n =>
 evBin2 tbx .add 9 v8 v14 fun v15 =>
 evBin2 tbx .add 9 v15 (.s 1 58) fun v16 =>
 evBin2 tbx .add 9 v16 v12 fun v17 =>
 evLoad tbx 9 v2 h fun w20 => cond (eqV 6 w20 v3) (
 evLoad tbx 9 v5 h fun w19 => cond (eqV 6 w19 v6) (
 evLoad tbx 9 v11 h fun w18 => cond (eqV 6 w18 v12) (
 k v17 h n) none) none) none) none) none) none) none) none) none) none
noncomputable def e46 : FE := ⟨Tryz.f46, bd Tryz.f46, [0], [2], (.q .z (.q .z .z))⟩
theorem q46 (fu : Nat) (cf : CF) (a0 : V) (h : H) (n : Id) (k : KV) : evF fu cf e46 [a0] h n k = s46 fu cf a0 h n k := by kernel_rfl
theorem p46 : PfOk Tryz.prog tbx mtab 46 (w1 (s46 fuX)) := pfo e46 Tryz.func46 (by kernel_rfl) (w1_ok (q46 fuX))
noncomputable def s49 (fu : Nat) (cf : CF) (a0 : V) (h : H) (n : Id) (k : KV) : R :=
 jp (fun (s1 : VT []) h n =>
 k (.b true) h n) fun kk2 =>
 lpC [0, 3] (fun lo4 s3 h n =>
 pc s3 fun v5 s6 =>
 pc s6 fun v7 s8 =>
 evLen tbx 71 v5 fun v9 =>
 evBin2 tbx .lss 3 v7 v9 fun v10 =>
 brB v10 (
 jp (fun (s11 : VT [0, 3]) h n =>
 pc s11 fun v13 s14 =>
 pc s14 fun v15 s16 =>
 evBin2 tbx .add 3 v15 (.i .i64 1) fun v17 =>
 lo4 (v13, v17, ()) h n) fun kk12 =>
 evIa tbx 71 v5 v7 fun v18 =>
 evLoad tbx 9 v18 h fun v19 =>
 cf 51 [v19] h n fun v20 h n =>
 evUn .not v20 fun v21 =>
 brB v21 (
 k (.b false) h n) (
 kk12 (v5, v7, ()) h n)) (
 kk2 (()) h n)) fu (a0, (.i .i64 0), ()) h n
noncomputable def e49 : FE := ⟨Tryz.f49, bd Tryz.f49, [0], [2], (.q .z (.q (.q .z (.b [] (.l [0, 3] (.q (.q .z (.c .z .z)) (.q (.b [0, 3] (.q .z (.c (.q .z .z) .z))) .z))))) (.q .z .z)))⟩
theorem q49 (fu : Nat) (cf : CF) (a0 : V) (h : H) (n : Id) (k : KV) : evF fu cf e49 [a0] h n k = s49 fu cf a0 h n k := by kernel_rfl
theorem p49 : PfOk Tryz.prog tbx mtab 49 (w1 (s49 fuX)) := pfo e49 Tryz.func49 (by kernel_rfl) (w1_ok (q49 fuX))
noncomputable def s50 (fu : Nat) (cf : CF) (a0 : V) (h : H) (n : Id) (k : KV) : R :=
 evLen tbx 9 a0 fun v1 =>
 evBin2 tbx .eql 3 v1 (.i .i64 0) fun v2 =>
 jp (fun (v3 : V) h n =>
 jp (fun (v5 : V) h n =>
 jp (fun (v7 : V) h n =>
 jp (fun (v9 : V) h n =>
 evPick v2 (.b true) v9 fun v11 =>
 brB v11 (
 k (.b false) h n) (
 jp (fun (s12 : VT []) h n =>
 k (.b true) h n) fun kk13 =>
 lpC [0, 3] (fun lo15 s14 h n =>
 pc s14 fun v16 s17 =>
 pc s17 fun v18 s19 =>
 evLen tbx 9 v16 fun v20 =>
 evBin2 tbx .lss 3 v18 v20 fun v21 =>
 brB v21 (
 jp (fun (s22 : VT [0, 3]) h n =>
 pc s22 fun v24 s25 =>
 pc s25 fun v26 s27 =>
 evBin2 tbx .add 3 v26 (.i .i64 1) fun v28 =>
 lo15 (v24, v28, ()) h n) fun kk23 =>
 evIx tbx 9 v16 v18 fun v29 =>
 cf 74 [v29] h n fun v30 h n =>
 evUn .not v30 fun v31 =>
 brB v31 (
 k (.b false) h n) (
 kk23 (v16, v18, ()) h n)) (
 kk13 (()) h n)) fu (a0, (.i .i64 0), ()) h n)) fun kk10 =>
 gdB v2 false ((evUn .not v7 fun v => kk10 v h n)) (kk10 (.tp []) h n)) fun kk8 =>
 gdB v2 false ((cf 73 [v5] h n kk8)) (kk8 (.tp []) h n)) fun kk6 =>
 gdB v2 false ((evIx tbx 9 v3 (.i .i64 0) fun v => kk6 v h n)) (kk6 (.tp []) h n)) fun kk4 =>
 gdB v2 false (kk4 a0 h n) (kk4 (.tp []) h n)
noncomputable def e50 : FE := ⟨Tryz.f50, bd Tryz.f50, [0], [2], (.q .z (.q (.q .z (.c (.q .z .z) .z)) (.q (.q .z (.b [] (.l [0, 3] (.q (.q .z (.c .z .z)) (.q (.b [0, 3] (.q .z (.c (.q .z .z) .z))) .z))))) (.q .z .z))))⟩
theorem q50 (fu : Nat) (cf : CF) (a0 : V) (h : H) (n : Id) (k : KV) : evF fu cf e50 [a0] h n k = s50 fu cf a0 h n k := by kernel_rfl
theorem p50 : PfOk Tryz.prog tbx mtab 50 (w1 (s50 fuX)) := pfo e50 Tryz.func50 (by kernel_rfl) (w1_ok (q50 fuX))
noncomputable def s51 (fu : Nat) (cf : CF) (a0 : V) (h : H) (n : Id) (k : KV) : R :=
 jp (fun (s1 : VT [0]) h n =>
 pc s1 fun v3 s4 =>
 cf 76 [v3] h n fun v5 h n =>
 evBin2 tbx .eql 9 v5 v3 fun v6 =>
 jp (fun (v7 : V) h n =>
 jp (fun (v9 : V) h n =>
 jp (fun (v11 : V) h n =>
 evPick v6 v11 (.b false) fun v13 =>
 k v13 h n) fun kk12 =>
 gdB v6 true ((evBin2 tbx .leq 3 v9 (.i .i64 500) fun v => kk12 v h n)) (kk12 (.tp []) h n)) fun kk10 =>
 gdB v6 true ((evLen tbx 9 v7 fun v => kk10 v h n)) (kk10 (.tp []) h n)) fun kk8 =>
 gdB v6 true (kk8 v3 h n) (kk8 (.tp []) h n)) fun kk2 =>
 lpC [0, 3] (fun lo15 s14 h n =>
 pc s14 fun v16 s17 =>
 pc s17 fun v18 s19 =>
 evLen tbx 9 v16 fun v20 =>
 evBin2 tbx .lss 3 v18 v20 fun v21 =>
 brB v21 (
 jp (fun (s22 : VT [0, 3]) h n =>
 pc s22 fun v24 s25 =>
 pc s25 fun v26 s27 =>
 evBin2 tbx .add 3 v26 (.i .i64 1) fun v28 =>
 lo15 (v24, v28, ()) h n) fun kk23 =>
 evIx tbx 9 v16 v18 fun v29 =>
 cf 75 [v29] h n fun v30 h n =>
 evUn .not v30 fun v31 =>
 brB v31 (
 k (.b false) h n) (
 kk23 (v16, v18, ()) h n)) (
 kk2 (v16, ()) h n)) fu (a0, (.i .i64 0), ()) h n
noncomputable def e51 : FE := ⟨Tryz.f51, bd Tryz.f51, [0], [2], (.q .z (.q (.q .z (.b [0] (.l [0, 3] (.q (.q .z (.c .z .z)) (.q (.b [0, 3] (.q .z (.c (.q .z .z) .z))) .z))))) (.q .z .z)))⟩
theorem q51 (fu : Nat) (cf : CF) (a0 : V) (h : H) (n : Id) (k : KV) : evF fu cf e51 [a0] h n k = s51 fu cf a0 h n k := by kernel_rfl
theorem p51 : PfOk Tryz.prog tbx mtab 51 (w1 (s51 fuX)) := pfo e51 Tryz.func51 (by kernel_rfl) (w1_ok (q51 fuX))
noncomputable def s52 (fu : Nat) (cf : CF) (a0 : V) (h : H) (n : Id) (k : KV) : R :=
 evLen tbx 30 a0 fun v1 =>
 evBin2 tbx .gtr 3 v1 (.i .i64 200) fun v2 =>
 brB v2 (
 k (.b false) h n) (
 jp (fun (s3 : VT []) h n =>
 k (.b true) h n) fun kk4 =>
 lpC [0, 3] (fun lo6 s5 h n =>
 pc s5 fun v7 s8 =>
 pc s8 fun v9 s10 =>
 evLen tbx 30 v7 fun v11 =>
 evBin2 tbx .lss 3 v9 v11 fun v12 =>
 brB v12 (
 jp (fun (s13 : VT [0, 3]) h n =>
 pc s13 fun v15 s16 =>
 pc s16 fun v17 s18 =>
 evBin2 tbx .add 3 v17 (.i .i64 1) fun v19 =>
 lo6 (v15, v19, ()) h n) fun kk14 =>
 evIa tbx 30 v7 v9 fun v20 =>
 evLoad tbx 51 v20 h fun v21 =>
 evAlloc tbx 51 h n fun v22 h n =>
 evStore tbx 51 v22 v21 h n fun _ h n =>
 evFa tbx 51 0 v22 fun v23 =>
 evLoad tbx 9 v23 h fun v24 =>
 evFa tbx 51 1 v22 fun v25 =>
 evLoad tbx 9 v25 h fun v26 =>
 evFa tbx 51 2 v22 fun v27 =>
 evLoad tbx 9 v27 h fun v28 =>
 evFa tbx 51 3 v22 fun v29 =>
 evLoad tbx 9 v29 h fun v30 =>
 evFa tbx 51 4 v22 fun v31 =>
 evLoad tbx 9 v31 h fun v32 =>
 evFa tbx 51 5 v22 fun v33 =>
 evLoad tbx 9 v33 h fun v34 =>
 evBuildSl tbx 71 6 [(0, v24), (1, v26), (2, v28), (3, v30), (4, v32), (5, v34)] h n fun v35 h n =>
 cf 49 [v35] h n fun v36 h n =>
 evUn .not v36 fun v37 =>
 jp (fun (v38 : V) h n =>
 jp (fun (v40 : V) h n =>
 jp (fun (v42 : V) h n =>
 evPick v37 (.b true) v42 fun v44 =>
 jp (fun (v45 : V) h n =>
 jp (fun (v47 : V) h n =>
 jp (fun (v49 : V) h n =>
 evPick v44 (.b true) v49 fun v51 =>
 jp (fun (v52 : V) h n =>
 jp (fun (v54 : V) h n =>
 jp (fun (v56 : V) h n =>
 jp (fun (v58 : V) h n =>
 evPick v51 (.b true) v58 fun v60 =>
 brB v60 (
 k (.b false) h n) (
 jp (fun (s61 : VT [0, 3]) h n =>
 pc s61 fun v63 s64 =>
 pc s64 fun v65 s66 =>
 kk14 (v63, v65, ()) h n) fun kk62 =>
 lpC [0, 3, 4, 5] (fun lo68 s67 h n =>
 pc s67 fun v69 s70 =>
 pc s70 fun v71 s72 =>
 pc s72 fun v73 s74 =>
 pc s74 fun v75 s76 =>
 evFa tbx 51 7 v73 fun v77 =>
 evLoad tbx 49 v77 h fun v78 =>
 evLen tbx 49 v78 fun v79 =>
 evBin2 tbx .lss 3 v75 v79 fun v80 =>
 brB v80 (
 jp (fun (s81 : VT [0, 3, 4, 5]) h n =>
 pc s81 fun v83 s84 =>
 pc s84 fun v85 s86 =>
 pc s86 fun v87 s88 =>
 pc s88 fun v89 s90 =>
 evBin2 tbx .add 3 v89 (.i .i64 1) fun v91 =>
 lo68 (v83, v85, v87, v91, ()) h n) fun kk82 =>
 evFa tbx 51 7 v73 fun v92 =>
 evLoad tbx 49 v92 h fun v93 =>
 evIa tbx 49 v93 v75 fun v94 =>
 evLoad tbx 63 v94 h fun v95 =>
 evAlloc tbx 63 h n fun v96 h n =>
 evStore tbx 63 v96 v95 h n fun _ h n =>
 evFa tbx 63 0 v96 fun v97 =>
 evLoad tbx 9 v97 h fun v98 =>
 cf 51 [v98] h n fun v99 h n =>
 evUn .not v99 fun v100 =>
 jp (fun (v101 : V) h n =>
 jp (fun (v103 : V) h n =>
 jp (fun (v105 : V) h n =>
 jp (fun (v107 : V) h n =>
 evPick v100 (.b true) v107 fun v109 =>
 jp (fun (v110 : V) h n =>
 jp (fun (v112 : V) h n =>
 jp (fun (v114 : V) h n =>
 evPick v109 (.b true) v114 fun v116 =>
 jp (fun (v117 : V) h n =>
 jp (fun (v119 : V) h n =>
 jp (fun (v121 : V) h n =>
 evPick v116 (.b true) v121 fun v123 =>
 brB v123 (
 k (.b false) h n) (
 kk82 (v69, v71, v73, v75, ()) h n)) fun kk122 =>
 gdB v116 false ((evBin2 tbx .eql 9 v119 (.s 0 0) fun v => kk122 v h n)) (kk122 (.tp []) h n)) fun kk120 =>
 gdB v116 false ((evLoad tbx 9 v117 h fun v => kk120 v h n)) (kk120 (.tp []) h n)) fun kk118 =>
 gdB v116 false ((evFa tbx 63 1 v96 fun v => kk118 v h n)) (kk118 (.tp []) h n)) fun kk115 =>
 gdB v109 false ((evBin2 tbx .eql 9 v112 (.s 0 0) fun v => kk115 v h n)) (kk115 (.tp []) h n)) fun kk113 =>
 gdB v109 false ((evLoad tbx 9 v110 h fun v => kk113 v h n)) (kk113 (.tp []) h n)) fun kk111 =>
 gdB v109 false ((evFa tbx 63 0 v96 fun v => kk111 v h n)) (kk111 (.tp []) h n)) fun kk108 =>
 gdB v100 false ((evUn .not v105 fun v => kk108 v h n)) (kk108 (.tp []) h n)) fun kk106 =>
 gdB v100 false ((cf 51 [v103] h n kk106)) (kk106 (.tp []) h n)) fun kk104 =>
 gdB v100 false ((evLoad tbx 9 v101 h fun v => kk104 v h n)) (kk104 (.tp []) h n)) fun kk102 =>
 gdB v100 false ((evFa tbx 63 1 v96 fun v => kk102 v h n)) (kk102 (.tp []) h n)) (
 kk62 (v69, v71, ()) h n)) fu (v7, v9, v22, (.i .i64 0), ()) h n)) fun kk59 =>
 gdB v51 false ((evBin2 tbx .gtr 3 v56 (.i .i64 50) fun v => kk59 v h n)) (kk59 (.tp []) h n)) fun kk57 =>
 gdB v51 false ((evLen tbx 49 v54 fun v => kk57 v h n)) (kk57 (.tp []) h n)) fun kk55 =>
 gdB v51 false ((evLoad tbx 49 v52 h fun v => kk55 v h n)) (kk55 (.tp []) h n)) fun kk53 =>
 gdB v51 false ((evFa tbx 51 7 v22 fun v => kk53 v h n)) (kk53 (.tp []) h n)) fun kk50 =>
 gdB v44 false ((evBin2 tbx .eql 9 v47 (.s 0 0) fun v => kk50 v h n)) (kk50 (.tp []) h n)) fun kk48 =>
 gdB v44 false ((evLoad tbx 9 v45 h fun v => kk48 v h n)) (kk48 (.tp []) h n)) fun kk46 =>
 gdB v44 false ((evFa tbx 51 1 v22 fun v => kk46 v h n)) (kk46 (.tp []) h n)) fun kk43 =>
 gdB v37 false ((evBin2 tbx .eql 9 v40 (.s 0 0) fun v => kk43 v h n)) (kk43 (.tp []) h n)) fun kk41 =>
 gdB v37 false ((evLoad tbx 9 v38 h fun v => kk41 v h n)) (kk41 (.tp []) h n)) fun kk39 =>
 gdB v37 false ((evFa tbx 51 0 v22 fun v => kk39 v h n)) (kk39 (.tp []) h n)) (
 kk4 (()) h n)) fu (a0, (.i .i64 0), ()) h n)
noncomputable def e52 : FE := ⟨Tryz.f52, bd Tryz.f52, [0], [2], (.q .z (.q (.q .z (.c (.q .z .z) .z)) (.q (.q .z (.b [] (.l [0, 3] (.q (.q .z (.c .z .z)) (.q (.b [0, 3] (.q .z (.q (.q .z (.c (.q .z .z) .z)) (.q .z (.b [0, 3] (.l [0, 3, 4, 5] (.q (.q .z (.c .z .z)) (.q (.b [0, 3, 4, 5] (.q .z (.q .z (.c (.q .z .z) .z)))) .z)))))))) .z))))) (.q .z .z))))⟩
theorem q52 (fu : Nat) (cf : CF) (a0 : V) (h : H) (n : Id) (k : KV) : evF fu cf e52 [a0] h n k = s52 fu cf a0 h n k := by kernel_rfl
theorem p52 : PfOk Tryz.prog tbx mtab 52 (w1 (s52 fuX)) := pfo e52 Tryz.func52 (by kernel_rfl) (w1_ok (q52 fuX))
end Go.Proofs.Nw.X
end
