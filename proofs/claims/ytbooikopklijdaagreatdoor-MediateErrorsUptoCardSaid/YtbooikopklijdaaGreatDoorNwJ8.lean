/- Bundle: NwXJ1. -/
import Derived.Test.YtbooikopklijdaaGreatDoorNwJ7
set_option linter.constructorNameAsVariable false
set_option linter.unusedVariables false
set_option linter.unusedSimpArgs false
set_option linter.unusedSectionVars false
section
/- printed by xg.py: seat F's functions, 1. -/
open Go Go.RowKit Go.Proofs
set_option linter.unusedVariables false
set_option maxRecDepth 100000
namespace Go.Proofs.Nw.X
open Go.Proofs.Nw.K
noncomputable def s9 (fu : Nat) (cf : CF) (a0 : V) (h : H) (n : Id) (k : KV) : R :=
 evBuild tbx 24 [(0, (.s 1 103)), (1, (.s 3 6447460)), (2, (.s 1 49))] fun v1 =>
 evBuild tbx 37 [(0, v1), (1, (.s 9 1114907305604924273726))] fun v2 =>
 evAlloc tbx 37 h n fun v3 h n =>
 evStore tbx 37 v3 v2 h n fun _ h n =>
 evBuild tbx 24 [(0, (.s 1 103)), (1, (.s 1 97)), (2, (.s 1 49))] fun v4 =>
 evAlloc tbx 24 h n fun v5 h n =>
 evStore tbx 24 v5 v4 h n fun _ h n =>
 evLoad tbx 37 v3 h fun v6 =>
 evLoad tbx 37 v3 h fun w109 => cond (eqV 6 w109 v6) (
 cf 28 [(.s 3 6447460), (.s 1 49)] h n fun v7 h n =>
 evLoad tbx 37 v3 h fun w108 => cond (eqV 6 w108 v6) (
 evBuildSl tbx 30 1 [(0, v7)] h n fun v8 h n =>
 evLoad tbx 37 v3 h fun w107 => cond (eqV 6 w107 v6) (
 cf 27 [(.s 1 98), (.s 1 49), v8] h n fun v9 h n =>
 evLoad tbx 37 v3 h fun w106 => cond (eqV 6 w106 v6) (
 cf 27 [(.s 1 99), (.s 1 49), .ns] h n fun v10 h n =>
 evLoad tbx 37 v3 h fun w105 => cond (eqV 6 w105 v6) (
 evBuildSl tbx 28 3 [(0, v6), (1, v9), (2, v10)] h n fun v11 h n =>
 cf 28 [(.s 1 98), (.s 1 49)] h n fun v12 h n =>
 cf 28 [(.s 1 99), (.s 1 49)] h n fun v13 h n =>
 evBuildSl tbx 30 2 [(0, v12), (1, v13)] h n fun v14 h n =>
 cf 27 [(.s 1 97), (.s 1 49), v14] h n fun v15 h n =>
 evAlloc tbx 37 h n fun v16 h n =>
 evStore tbx 37 v16 v15 h n fun _ h n =>
 evConv2 tbx mtab 3 22 a0 h n fun v17 h n =>
 evBin2 tbx .rem 22 v17 (.i .u64 7) fun v18 =>
 jp (fun (s19 : VT [4, 5, 6, 7]) h n =>
 pc s19 fun v21 s22 =>
 pc s22 fun v23 s24 =>
 pc s24 fun v25 s26 =>
 pc s26 fun v27 s28 =>
 evLoad tbx 37 v25 h fun v29 =>
 evBuildSl tbx 28 1 [(0, v29)] h n fun v30 h n =>
 evApp tbx 28 28 v23 v30 h n fun v31 h n =>
 cf 19 [v31] h n fun v32 h n =>
 evExt 0 v32 fun v33 =>
 evExt 1 v32 fun v34 =>
 evLoad tbx 24 v21 h fun v35 =>
 cf 29 [v33, v35] h n fun v36 h n =>
 evExt 0 v36 fun v37 =>
 evExt 1 v36 fun v38 =>
 evAlloc tbx 66 h n fun v39 h n =>
 evStore tbx 66 v39 v37 h n fun _ h n =>
 cf 30 [] h n fun v40 h n =>
 jp (fun (v41 : V) h n =>
 jp (fun (v43 : V) h n =>
 evPick v40 v43 (.b false) fun v45 =>
 jp (fun (v46 : V) h n =>
 jp (fun (v48 : V) h n =>
 jp (fun (v50 : V) h n =>
 evPick v45 v50 (.b false) fun v52 =>
 jp (fun (v53 : V) h n =>
 jp (fun (v55 : V) h n =>
 jp (fun (v57 : V) h n =>
 jp (fun (v59 : V) h n =>
 jp (fun (v61 : V) h n =>
 jp (fun (v63 : V) h n =>
 jp (fun (v65 : V) h n =>
 evPick v52 v65 (.b false) fun v67 =>
 k v67 h n) fun kk66 =>
 gdB v52 true ((evBin2 tbx .eql 4 v55 v63 fun v => kk66 v h n)) (kk66 (.tp []) h n)) fun kk64 =>
 gdB v52 true ((evBin2 tbx .gtr 3 v61 (.i .i64 0) fun v => kk64 v h n)) (kk64 (.tp []) h n)) fun kk62 =>
 gdB v52 true ((evLen tbx 64 v59 fun v => kk62 v h n)) (kk62 (.tp []) h n)) fun kk60 =>
 gdB v52 true ((evLoad tbx 64 v57 h fun v => kk60 v h n)) (kk60 (.tp []) h n)) fun kk58 =>
 gdB v52 true ((evFa tbx 66 1 v39 fun v => kk58 v h n)) (kk58 (.tp []) h n)) fun kk56 =>
 gdB v52 true ((evBin2 tbx .eql 33 v53 (.i .i64 0) fun v => kk56 v h n)) (kk56 (.tp []) h n)) fun kk54 =>
 gdB v52 true (kk54 v38 h n) (kk54 (.tp []) h n)) fun kk51 =>
 gdB v45 true ((evBin2 tbx .eql 33 v46 v48 fun v => kk51 v h n)) (kk51 (.tp []) h n)) fun kk49 =>
 gdB v45 true (kk49 v27 h n) (kk49 (.tp []) h n)) fun kk47 =>
 gdB v45 true (kk47 v38 h n) (kk47 (.tp []) h n)) fun kk44 =>
 gdB v40 true ((evBin2 tbx .eql 33 v41 (.i .i64 0) fun v => kk44 v h n)) (kk44 (.tp []) h n)) fun kk42 =>
 gdB v40 true (kk42 v34 h n) (kk42 (.tp []) h n)) fun kk20 =>
 evBin2 tbx .eql 22 v18 (.i .u64 0) fun v68 =>
 brB v68 (
 cf 28 [(.s 1 98), (.s 1 49)] h n fun v69 h n =>
 cf 28 [(.s 4 1852796517), (.s 1 49)] h n fun v70 h n =>
 evBuildSl tbx 30 2 [(0, v69), (1, v70)] h n fun v71 h n =>
 cf 27 [(.s 1 97), (.s 1 49), v71] h n fun v72 h n =>
 evStore tbx 37 v16 v72 h n fun _ h n =>
 kk20 (v5, v11, v16, (.i .i64 14), ()) h n) (
 evBin2 tbx .eql 22 v18 (.i .u64 1) fun v73 =>
 brB v73 (
 cf 28 [(.s 4 1852796517), (.s 1 49)] h n fun v74 h n =>
 cf 28 [(.s 3 6447460), (.s 1 49)] h n fun v75 h n =>
 evBuildSl tbx 30 2 [(0, v74), (1, v75)] h n fun v76 h n =>
 cf 27 [(.s 1 97), (.s 1 49), v76] h n fun v77 h n =>
 evStore tbx 37 v16 v77 h n fun _ h n =>
 kk20 (v5, v11, v16, (.i .i64 14), ()) h n) (
 evBin2 tbx .eql 22 v18 (.i .u64 2) fun v78 =>
 brB v78 (
 cf 28 [(.s 3 6447460), (.s 1 49)] h n fun v79 h n =>
 cf 28 [(.s 4 1852796517), (.s 1 49)] h n fun v80 h n =>
 evBuildSl tbx 30 2 [(0, v79), (1, v80)] h n fun v81 h n =>
 cf 27 [(.s 1 97), (.s 1 49), v81] h n fun v82 h n =>
 evStore tbx 37 v16 v82 h n fun _ h n =>
 kk20 (v5, v11, v16, (.i .i64 6), ()) h n) (
 evBin2 tbx .eql 22 v18 (.i .u64 3) fun v83 =>
 brB v83 (
 cf 28 [(.s 3 6447460), (.s 1 49)] h n fun v84 h n =>
 cf 28 [(.s 1 99), (.s 4 1530014761)] h n fun v85 h n =>
 evBuildSl tbx 30 2 [(0, v84), (1, v85)] h n fun v86 h n =>
 cf 27 [(.s 1 97), (.s 1 49), v86] h n fun v87 h n =>
 evStore tbx 37 v16 v87 h n fun _ h n =>
 kk20 (v5, v11, v16, (.i .i64 13), ()) h n) (
 evBin2 tbx .eql 22 v18 (.i .u64 4) fun v88 =>
 brB v88 (
 cf 28 [(.s 1 99), (.s 1 49)] h n fun v89 h n =>
 cf 28 [(.s 1 98), (.s 5 391667003945)] h n fun v90 h n =>
 evBuildSl tbx 30 2 [(0, v89), (1, v90)] h n fun v91 h n =>
 cf 27 [(.s 1 97), (.s 1 49), v91] h n fun v92 h n =>
 evStore tbx 37 v16 v92 h n fun _ h n =>
 kk20 (v5, v11, v16, (.i .i64 6), ()) h n) (
 evBin2 tbx .eql 22 v18 (.i .u64 5) fun v93 =>
 brB v93 (
 cf 28 [(.s 1 98), (.s 1 49)] h n fun v94 h n =>
 evAlloc tbx 51 h n fun v95 h n =>
 evStore tbx 51 v95 v94 h n fun _ h n =>
 evBuild tbx 63 [(0, (.s 1 42)), (1, (.s 3 6447460))] fun v96 =>
 evBuildSl tbx 49 1 [(0, v96)] h n fun v97 h n =>
 evFa tbx 51 7 v95 fun v98 =>
 evStore tbx 49 v98 v97 h n fun _ h n =>
 evLoad tbx 51 v95 h fun v99 =>
 evLoad tbx 51 v95 h fun w104 => cond (eqV 6 w104 v99) (
 cf 28 [(.s 1 99), (.s 1 49)] h n fun v100 h n =>
 evLoad tbx 51 v95 h fun w103 => cond (eqV 6 w103 v99) (
 evBuildSl tbx 30 2 [(0, v99), (1, v100)] h n fun v101 h n =>
 cf 27 [(.s 1 97), (.s 1 49), v101] h n fun v102 h n =>
 evStore tbx 37 v16 v102 h n fun _ h n =>
 kk20 (v5, v11, v16, (.i .i64 0), ()) h n) none) none) (
 kk20 (v5, v11, v16, (.i .i64 6), ()) h n))))))) none) none) none) none) none
noncomputable def e9 : FE := ⟨Tryz.f9, bd Tryz.f9, [0], [2], (.q .z (.q .z (.q .z (.q .z (.q .z (.q .z (.q (.q .z (.b [4, 5, 6, 7] (.q .z (.c .z (.q .z (.c .z (.q .z (.c .z (.q .z (.c .z (.q .z (.c .z (.q .z (.c (.q .z (.q .z .z)) .z)))))))))))))) (.q .z (.q .z (.q .z .z))))))))))⟩
theorem q9 (fu : Nat) (cf : CF) (a0 : V) (h : H) (n : Id) (k : KV) : evF fu cf e9 [a0] h n k = s9 fu cf a0 h n k := by kernel_rfl
theorem p9 : PfOk Tryz.prog tbx mtab 9 (w1 (s9 fuX)) := pfo e9 Tryz.func9 (by kernel_rfl) (w1_ok (q9 fuX))
noncomputable def s10 (fu : Nat) (cf : CF) (a0 a1 : V) (h : H) (n : Id) (k : KV) : R :=
 evConv2 tbx mtab 3 22 a0 h n fun v1 h n =>
 evBin2 tbx .rem 22 v1 (.i .u64 6) fun v2 =>
 evConv2 tbx mtab 22 3 v2 h n fun v3 h n =>
 evBin2 tbx .add 3 (.i .i64 2) v3 fun v4 =>
 evConv2 tbx mtab 3 22 a1 h n fun v5 h n =>
 evConv2 tbx mtab 3 22 v4 h n fun v6 h n =>
 evBin2 tbx .rem 22 v5 v6 fun v7 =>
 evConv2 tbx mtab 22 3 v7 h n fun v8 h n =>
 jp (fun (s9 : VT [0, 1, 5]) h n =>
 pc s9 fun v11 s12 =>
 pc s12 fun v13 s14 =>
 pc s14 fun v15 s16 =>
 cf 19 [v15] h n fun v17 h n =>
 evExt 0 v17 fun v18 =>
 evExt 1 v17 fun v19 =>
 evIa tbx 28 v15 (.i .i64 0) fun v20 =>
 evFa tbx 37 0 v20 fun v21 =>
 evLoad tbx 24 v21 h fun v22 =>
 cf 29 [v18, v22] h n fun v23 h n =>
 evExt 0 v23 fun v24 =>
 evExt 1 v23 fun v25 =>
 evAlloc tbx 66 h n fun v26 h n =>
 evStore tbx 66 v26 v24 h n fun _ h n =>
 cf 30 [] h n fun v27 h n =>
 evUn .not v27 fun v28 =>
 jp (fun (v29 : V) h n =>
 jp (fun (v31 : V) h n =>
 evPick v28 (.b true) v31 fun v33 =>
 jp (fun (v34 : V) h n =>
 jp (fun (v36 : V) h n =>
 evPick v33 (.b true) v36 fun v38 =>
 brB v38 (
 k (.b false) h n) (
 jp (fun (s39 : VT [0, 1, 12, 13]) h n =>
 pc s39 fun v41 s42 =>
 pc s42 fun v43 s44 =>
 pc s44 fun v45 s46 =>
 pc s46 fun v47 s48 =>
 evBin2 tbx .sub 3 v41 v43 fun v49 =>
 evBin2 tbx .eql 3 v45 v49 fun v50 =>
 jp (fun (v51 : V) h n =>
 jp (fun (v53 : V) h n =>
 jp (fun (v55 : V) h n =>
 jp (fun (v57 : V) h n =>
 jp (fun (v59 : V) h n =>
 evPick v50 v59 (.b false) fun v61 =>
 k v61 h n) fun kk60 =>
 gdB v50 true ((evBin2 tbx .eql 9 v51 v57 fun v => kk60 v h n)) (kk60 (.tp []) h n)) fun kk58 =>
 gdB v50 true ((cf 16 [v55] h n kk58)) (kk58 (.tp []) h n)) fun kk56 =>
 gdB v50 true ((evBin2 tbx .add 3 v53 (.i .i64 1) fun v => kk56 v h n)) (kk56 (.tp []) h n)) fun kk54 =>
 gdB v50 true (kk54 v43 h n) (kk54 (.tp []) h n)) fun kk52 =>
 gdB v50 true (kk52 v47 h n) (kk52 (.tp []) h n)) fun kk40 =>
 lpC [0, 1, 10, 12, 13, 14] (fun lo63 s62 h n =>
 pc s62 fun v64 s65 =>
 pc s65 fun v66 s67 =>
 pc s67 fun v68 s69 =>
 pc s69 fun v70 s71 =>
 pc s71 fun v72 s73 =>
 pc s73 fun v74 s75 =>
 evFa tbx 66 1 v68 fun v76 =>
 evLoad tbx 64 v76 h fun v77 =>
 evLen tbx 64 v77 fun v78 =>
 evBin2 tbx .lss 3 v74 v78 fun v79 =>
 brB v79 (
 jp (fun (s80 : VT [0, 1, 10, 12, 13, 14]) h n =>
 pc s80 fun v82 s83 =>
 pc s83 fun v84 s85 =>
 pc s85 fun v86 s87 =>
 pc s87 fun v88 s89 =>
 pc s89 fun v90 s91 =>
 pc s91 fun v92 s93 =>
 evBin2 tbx .add 3 v92 (.i .i64 1) fun v94 =>
 lo63 (v82, v84, v86, v88, v90, v94, ()) h n) fun kk81 =>
 evFa tbx 66 1 v68 fun v95 =>
 evLoad tbx 64 v95 h fun v96 =>
 evIa tbx 64 v96 v74 fun v97 =>
 evFa tbx 70 2 v97 fun v98 =>
 evFa tbx 51 1 v98 fun v99 =>
 evLoad tbx 9 v99 h fun v100 =>
 evBin2 tbx .eql 9 v100 (.s 1 122) fun v101 =>
 brB v101 (
 evBin2 tbx .add 3 v70 (.i .i64 1) fun v102 =>
 evFa tbx 66 1 v68 fun v103 =>
 evLoad tbx 64 v103 h fun v104 =>
 evIa tbx 64 v104 v74 fun v105 =>
 evFa tbx 70 3 v105 fun v106 =>
 evLoad tbx 3 v106 h fun v107 =>
 evBin2 tbx .eql 3 v107 (.i .i64 1) fun v108 =>
 brB v108 (
 evFa tbx 66 1 v68 fun v109 =>
 evLoad tbx 64 v109 h fun v110 =>
 evIa tbx 64 v110 v74 fun v111 =>
 evFa tbx 70 2 v111 fun v112 =>
 evFa tbx 51 2 v112 fun v113 =>
 evLoad tbx 9 v113 h fun v114 =>
 kk81 (v64, v66, v68, v102, v114, v74, ()) h n) (
 evFa tbx 66 1 v68 fun v115 =>
 evLoad tbx 64 v115 h fun v116 =>
 evIa tbx 64 v116 v74 fun v117 =>
 evFa tbx 70 3 v117 fun v118 =>
 evLoad tbx 3 v118 h fun v119 =>
 evBin2 tbx .neq 3 v119 (.i .i64 2) fun v120 =>
 brB v120 (
 k (.b false) h n) (
 kk81 (v64, v66, v68, v102, v72, v74, ()) h n))) (
 kk81 (v64, v66, v68, v70, v72, v74, ()) h n)) (
 kk40 (v64, v66, v70, v72, ()) h n)) fu (v11, v13, v26, (.i .i64 0), (.s 0 0), (.i .i64 0), ()) h n)) fun kk37 =>
 gdB v33 false ((evBin2 tbx .neq 33 v34 (.i .i64 0) fun v => kk37 v h n)) (kk37 (.tp []) h n)) fun kk35 =>
 gdB v33 false (kk35 v25 h n) (kk35 (.tp []) h n)) fun kk32 =>
 gdB v28 false ((evBin2 tbx .neq 33 v29 (.i .i64 0) fun v => kk32 v h n)) (kk32 (.tp []) h n)) fun kk30 =>
 gdB v28 false (kk30 v19 h n) (kk30 (.tp []) h n)) fun kk10 =>
 lpC [0, 1, 5, 6] (fun lo122 s121 h n =>
 pc s121 fun v123 s124 =>
 pc s124 fun v125 s126 =>
 pc s126 fun v127 s128 =>
 pc s128 fun v129 s130 =>
 evBin2 tbx .lss 3 v129 v123 fun v131 =>
 brB v131 (
 jp (fun (s132 : VT [0, 1, 5, 6]) h n =>
 pc s132 fun v134 s135 =>
 pc s135 fun v136 s137 =>
 pc s137 fun v138 s139 =>
 pc s139 fun v140 s141 =>
 evBin2 tbx .add 3 v140 (.i .i64 1) fun v142 =>
 lo122 (v134, v136, v138, v142, ()) h n) fun kk133 =>
 jp (fun (s143 : VT [0, 1, 5, 6, 7]) h n =>
 pc s143 fun v145 s146 =>
 pc s146 fun v147 s148 =>
 pc s148 fun v149 s150 =>
 pc s150 fun v151 s152 =>
 pc s152 fun v153 s154 =>
 jp (fun (s155 : VT [0, 1, 5, 6, 7]) h n =>
 pc s155 fun v157 s158 =>
 pc s158 fun v159 s160 =>
 pc s160 fun v161 s162 =>
 pc s162 fun v163 s164 =>
 pc s164 fun v165 s166 =>
 cf 16 [v163] h n fun v167 h n =>
 evBin2 tbx .add 9 (.s 1 112) v167 fun v168 =>
 cf 27 [v168, (.s 1 49), v165] h n fun v169 h n =>
 evBuildSl tbx 28 1 [(0, v169)] h n fun v170 h n =>
 evApp tbx 28 28 v161 v170 h n fun v171 h n =>
 evBin2 tbx .add 3 v163 (.i .i64 1) fun v172 =>
 cf 16 [v172] h n fun v173 h n =>
 cf 27 [(.s 1 122), v173, .ns] h n fun v174 h n =>
 evBuildSl tbx 28 1 [(0, v174)] h n fun v175 h n =>
 evApp tbx 28 28 v171 v175 h n fun v176 h n =>
 kk133 (v157, v159, v176, v163, ()) h n) fun kk156 =>
 evBin2 tbx .geq 3 v151 v147 fun v177 =>
 brB v177 (
 evBin2 tbx .add 3 v151 (.i .i64 1) fun v178 =>
 cf 16 [v178] h n fun v179 h n =>
 cf 28 [(.s 1 122), v179] h n fun v180 h n =>
 evBuildSl tbx 30 1 [(0, v180)] h n fun v181 h n =>
 evApp tbx 30 30 v153 v181 h n fun v182 h n =>
 kk156 (v145, v147, v149, v151, v182, ()) h n) (
 kk156 (v145, v147, v149, v151, v153, ()) h n)) fun kk144 =>
 evBin2 tbx .sub 3 v123 (.i .i64 1) fun v183 =>
 evBin2 tbx .lss 3 v129 v183 fun v184 =>
 brB v184 (
 evBin2 tbx .add 3 v129 (.i .i64 1) fun v185 =>
 cf 16 [v185] h n fun v186 h n =>
 evBin2 tbx .add 9 (.s 1 112) v186 fun v187 =>
 cf 28 [v187, (.s 1 49)] h n fun v188 h n =>
 evBuildSl tbx 30 1 [(0, v188)] h n fun v189 h n =>
 evApp tbx 30 30 .ns v189 h n fun v190 h n =>
 kk144 (v123, v125, v127, v129, v190, ()) h n) (
 kk144 (v123, v125, v127, v129, .ns, ()) h n)) (
 kk10 (v123, v125, v127, ()) h n)) fu (v4, v8, .ns, (.i .i64 0), ()) h n
noncomputable def e10 : FE := ⟨Tryz.f10, bd Tryz.f10, [0, 1], [4], (.q .z (.q .z (.q .z (.q .z (.q (.q .z (.b [0, 1, 5] (.l [0, 1, 5, 6] (.q (.q .z (.c .z .z)) (.q (.b [0, 1, 5, 6] (.q .z (.s [0, 1, 5, 6, 7] (.q .z (.c .z .z)) (.s [0, 1, 5, 6, 7] (.q .z (.c .z .z)) (.q .z .z))))) .z))))) (.q .z (.q .z (.q (.q .z (.c (.q .z .z) .z)) (.q .z (.q (.q .z (.b [0, 1, 12, 13] (.l [0, 1, 10, 12, 13, 14] (.q (.q .z (.c .z .z)) (.q (.b [0, 1, 10, 12, 13, 14] (.q .z (.c (.q .z (.q .z (.c .z (.q .z (.c (.q .z .z) .z))))) .z))) .z))))) (.q .z .z)))))))))))⟩
theorem q10 (fu : Nat) (cf : CF) (a0 a1 : V) (h : H) (n : Id) (k : KV) : evF fu cf e10 [a0, a1] h n k = s10 fu cf a0 a1 h n k := by kernel_rfl
theorem p10 : PfOk Tryz.prog tbx mtab 10 (w2 (s10 fuX)) := pfo e10 Tryz.func10 (by kernel_rfl) (w2_ok (q10 fuX))
noncomputable def s11 (fu : Nat) (cf : CF) (a0 a1 a2 : V) (h : H) (n : Id) (k : KV) : R :=
 evBuildSl tbx 71 4 [(0, (.s 7 27988538522430565)), (1, (.s 7 32217264604933477)), (2, (.s 8 8102661233957954916)), (3, (.s 4 1952805748))] h n fun v1 h n =>
 cf 28 [(.s 1 99), (.s 1 49)] h n fun v2 h n =>
 evAlloc tbx 51 h n fun v3 h n =>
 evStore tbx 51 v3 v2 h n fun _ h n =>
 evRc tbx 3 22 a1 h fun v4 =>
 evBin2 tbx .rem 22 v4 (.i .u64 4) fun v5 =>
 evRc tbx 22 3 v5 h fun v6 =>
 evIa tbx 71 v1 v6 fun v7 =>
 evLoad tbx 9 v7 h fun v8 =>
 evFa tbx 51 6 v3 fun v9 =>
 evRc tbx 3 22 a1 h fun w175 => cond (eqV 6 w175 v4) (
 evRc tbx 22 3 v5 h fun w174 => cond (eqV 6 w174 v6) (
 evLoad tbx 9 v7 h fun w173 => cond (eqV 6 w173 v8) (
 evStore tbx 4 v9 a0 h n fun _ h n =>
 evFa tbx 51 5 v3 fun v10 =>
 evRc tbx 3 22 a1 h fun w172 => cond (eqV 6 w172 v4) (
 evRc tbx 22 3 v5 h fun w171 => cond (eqV 6 w171 v6) (
 evLoad tbx 9 v7 h fun w170 => cond (eqV 6 w170 v8) (
 evStore tbx 9 v10 v8 h n fun _ h n =>
 evLoad tbx 51 v3 h fun v11 =>
 alB n fun n' => sliA tbx 30 1 [(0, v11)] fun x mk => 
 (fun (v12 : V) h n =>
 evLoad tbx 51 v3 h fun w169 => cond (eqV 6 w169 v11) (
 ckO (vId v12) h fun id x' => sliA tbx 30 1 [(0, v11)] fun x mk => cond (eqO x' x) (cond (eqV 6 (mk id) v12) (
 cf 27 [(.s 1 99), (.s 1 49), .ns] h n fun v13 h n =>
 evLoad tbx 51 v3 h fun w168 => cond (eqV 6 w168 v11) (
 ckO (vId v12) h fun id x' => sliA tbx 30 1 [(0, v11)] fun x mk => cond (eqO x' x) (cond (eqV 6 (mk id) v12) (
 cf 27 [(.s 1 98), (.s 1 49), v12] h n fun v14 h n =>
 alB n fun n' => sliA tbx 28 2 [(0, v13), (1, v14)] fun x mk => 
 (fun (v15 : V) h n =>
 ckO (vId v15) h fun id x' => sliA tbx 28 2 [(0, v13), (1, v14)] fun x mk => cond (eqO x' x) (cond (eqV 6 (mk id) v15) (
 evLoad tbx 51 v3 h fun v16 =>
 evBuildSl tbx 30 1 [(0, v16)] h n fun v17 h n =>
 cf 27 [(.s 1 97), (.s 1 49), v17] h n fun v18 h n =>
 evAlloc tbx 37 h n fun v19 h n =>
 evStore tbx 37 v19 v18 h n fun _ h n =>
 jp (fun (s20 : VT [0, 2, 8, 9, 10]) h n =>
 pc s20 fun v22 s23 =>
 pc s23 fun v24 s25 =>
 pc s25 fun v26 s27 =>
 pc s27 fun v28 s29 =>
 pc s29 fun v30 s31 =>
 evLoad tbx 37 v30 h fun v32 =>
 evBuildSl tbx 28 1 [(0, v32)] h n fun v33 h n =>
 evApp tbx 28 28 v28 v33 h n fun v34 h n =>
 cf 19 [v34] h n fun v35 h n =>
 evExt 0 v35 fun v36 =>
 evExt 1 v35 fun v37 =>
 evFa tbx 37 0 v30 fun v38 =>
 evLoad tbx 24 v38 h fun v39 =>
 cf 29 [v36, v39] h n fun v40 h n =>
 evExt 0 v40 fun v41 =>
 evExt 1 v40 fun v42 =>
 evAlloc tbx 66 h n fun v43 h n =>
 evStore tbx 66 v43 v41 h n fun _ h n =>
 jp (fun (s44 : VT [0, 2, 8, 12, 14, 15]) h n =>
 pc s44 fun v46 s47 =>
 pc s47 fun v48 s49 =>
 pc s49 fun v50 s51 =>
 pc s51 fun v52 s53 =>
 pc s53 fun v54 s55 =>
 pc s55 fun v56 s57 =>
 evFa tbx 51 5 v50 fun v58 =>
 evLoad tbx 9 v58 h fun v59 =>
 jp (fun (s60 : VT [12, 14, 15, 17]) h n =>
 pc s60 fun v62 s63 =>
 pc s63 fun v64 s65 =>
 pc s65 fun v66 s67 =>
 pc s67 fun v68 s69 =>
 cf 30 [] h n fun v70 h n =>
 jp (fun (v71 : V) h n =>
 jp (fun (v73 : V) h n =>
 evPick v70 v73 (.b false) fun v75 =>
 jp (fun (v76 : V) h n =>
 jp (fun (v78 : V) h n =>
 evPick v75 v78 (.b false) fun v80 =>
 jp (fun (v81 : V) h n =>
 jp (fun (v83 : V) h n =>
 jp (fun (v85 : V) h n =>
 evPick v80 v85 (.b false) fun v87 =>
 k v87 h n) fun kk86 =>
 gdB v80 true ((evBin2 tbx .eql 9 v81 v83 fun v => kk86 v h n)) (kk86 (.tp []) h n)) fun kk84 =>
 gdB v80 true (kk84 v68 h n) (kk84 (.tp []) h n)) fun kk82 =>
 gdB v80 true (kk82 v66 h n) (kk82 (.tp []) h n)) fun kk79 =>
 gdB v75 true ((evBin2 tbx .eql 33 v76 (.i .i64 0) fun v => kk79 v h n)) (kk79 (.tp []) h n)) fun kk77 =>
 gdB v75 true (kk77 v64 h n) (kk77 (.tp []) h n)) fun kk74 =>
 gdB v70 true ((evBin2 tbx .eql 33 v71 (.i .i64 0) fun v => kk74 v h n)) (kk74 (.tp []) h n)) fun kk72 =>
 gdB v70 true (kk72 v62 h n) (kk72 (.tp []) h n)) fun kk61 =>
 jp (fun (v88 : V) h n =>
 jp (fun (v90 : V) h n =>
 jp (fun (v92 : V) h n =>
 jp (fun (v94 : V) h n =>
 jp (fun (v96 : V) h n =>
 jp (fun (v98 : V) h n =>
 jp (fun (v100 : V) h n =>
 jp (fun (v102 : V) h n =>
 jp (fun (v104 : V) h n =>
 jp (fun (v106 : V) h n =>
 jp (fun (v108 : V) h n =>
 evPick v48 v108 (.b false) fun v110 =>
 brB v110 (
 kk61 (v52, v54, v56, (.s 0 0), ()) h n) (
 kk61 (v52, v54, v56, v59, ()) h n)) fun kk109 =>
 gdB v48 true ((evPick v100 (.b true) v106 fun v => kk109 v h n)) (kk109 (.tp []) h n)) fun kk107 =>
 gdB v100 false ((evBin2 tbx .eql 9 v104 (.s 4 1952805748) fun v => kk107 v h n)) (kk107 (.tp []) h n)) fun kk105 =>
 gdB v100 false ((evLoad tbx 9 v102 h fun v => kk105 v h n)) (kk105 (.tp []) h n)) fun kk103 =>
 gdB v100 false ((evFa tbx 51 5 v50 fun v => kk103 v h n)) (kk103 (.tp []) h n)) fun kk101 =>
 gdB v48 true (kk101 v98 h n) (kk101 (.tp []) h n)) fun kk99 =>
 gdB v48 true ((evPick v90 (.b true) v96 fun v => kk99 v h n)) (kk99 (.tp []) h n)) fun kk97 =>
 gdB v90 false ((evBin2 tbx .eql 9 v94 (.s 8 8102661233957954916) fun v => kk97 v h n)) (kk97 (.tp []) h n)) fun kk95 =>
 gdB v90 false ((evLoad tbx 9 v92 h fun v => kk95 v h n)) (kk95 (.tp []) h n)) fun kk93 =>
 gdB v90 false ((evFa tbx 51 5 v50 fun v => kk93 v h n)) (kk93 (.tp []) h n)) fun kk91 =>
 gdB v48 true (kk91 v88 h n) (kk91 (.tp []) h n)) fun kk89 =>
 gdB v48 true (kk89 v46 h n) (kk89 (.tp []) h n)) fun kk45 =>
 lpC [0, 2, 8, 12, 13, 14, 15, 16] (fun lo112 s111 h n =>
 pc s111 fun v113 s114 =>
 pc s114 fun v115 s116 =>
 pc s116 fun v117 s118 =>
 pc s118 fun v119 s120 =>
 pc s120 fun v121 s122 =>
 pc s122 fun v123 s124 =>
 pc s124 fun v125 s126 =>
 pc s126 fun v127 s128 =>
 evFa tbx 66 1 v121 fun v129 =>
 evLoad tbx 64 v129 h fun v130 =>
 evLen tbx 64 v130 fun v131 =>
 evBin2 tbx .lss 3 v127 v131 fun v132 =>
 brB v132 (
 jp (fun (s133 : VT [0, 2, 8, 12, 13, 14, 15, 16]) h n =>
 pc s133 fun v135 s136 =>
 pc s136 fun v137 s138 =>
 pc s138 fun v139 s140 =>
 pc s140 fun v141 s142 =>
 pc s142 fun v143 s144 =>
 pc s144 fun v145 s146 =>
 pc s146 fun v147 s148 =>
 pc s148 fun v149 s150 =>
 evBin2 tbx .add 3 v149 (.i .i64 1) fun v151 =>
 lo112 (v135, v137, v139, v141, v143, v145, v147, v151, ()) h n) fun kk134 =>
 evFa tbx 66 1 v121 fun v152 =>
 evLoad tbx 64 v152 h fun v153 =>
 evIa tbx 64 v153 v127 fun v154 =>
 evFa tbx 70 2 v154 fun v155 =>
 evFa tbx 51 1 v155 fun v156 =>
 evLoad tbx 9 v156 h fun v157 =>
 evBin2 tbx .eql 9 v157 (.s 1 99) fun v158 =>
 brB v158 (
 evFa tbx 66 1 v121 fun v159 =>
 evLoad tbx 64 v159 h fun v160 =>
 evIa tbx 64 v160 v127 fun v161 =>
 evFa tbx 70 2 v161 fun v162 =>
 evFa tbx 51 5 v162 fun v163 =>
 evLoad tbx 9 v163 h fun v164 =>
 kk134 (v113, v115, v117, v119, v121, v123, v164, v127, ()) h n) (
 kk134 (v113, v115, v117, v119, v121, v123, v125, v127, ()) h n)) (
 kk45 (v113, v115, v117, v119, v123, v125, ()) h n)) fu (v22, v24, v26, v37, v43, v42, (.s 0 0), (.i .i64 0), ()) h n) fun kk21 =>
 brB a2 (
 cf 28 [(.s 1 98), (.s 1 49)] h n fun v165 h n =>
 evBuildSl tbx 30 1 [(0, v165)] h n fun v166 h n =>
 cf 27 [(.s 1 97), (.s 1 49), v166] h n fun v167 h n =>
 evStore tbx 37 v19 v167 h n fun _ h n =>
 kk21 (a0, a2, v3, v15, v19, ()) h n) (
 kk21 (a0, a2, v3, v15, v19, ()) h n)) none) none) (mk n) (hset x n h) n') none) none) none) none) none) none) (mk n) (hset x n h) n') none) none) none) none) none) none
noncomputable def e11 : FE := ⟨Tryz.f11, bd Tryz.f11, [0, 1, 2], [6], (.q .z (.q .z (.q .z (.q .z (.q .z (.q .z (.s [0, 2, 8, 9, 10] (.q .z (.c .z .z)) (.q .z (.q .z (.q .z (.q (.q .z (.b [0, 2, 8, 12, 14, 15] (.l [0, 2, 8, 12, 13, 14, 15, 16] (.q (.q .z (.c .z .z)) (.q (.b [0, 2, 8, 12, 13, 14, 15, 16] (.q .z (.c .z .z))) .z))))) (.q .z (.s [12, 14, 15, 17] (.q .z (.c .z .z)) (.q .z .z))))))))))))))⟩
theorem q11 (fu : Nat) (cf : CF) (a0 a1 a2 : V) (h : H) (n : Id) (k : KV) : evF fu cf e11 [a0, a1, a2] h n k = s11 fu cf a0 a1 a2 h n k := by kernel_rfl
theorem p11 : PfOk Tryz.prog tbx mtab 11 (w3 (s11 fuX)) := pfo e11 Tryz.func11 (by kernel_rfl) (w3_ok (q11 fuX))
noncomputable def s12 (fu : Nat) (cf : CF) (a0 a1 : V) (h : H) (n : Id) (k : KV) : R :=
 evConv2 tbx mtab 3 22 a0 h n fun v1 h n =>
 evBin2 tbx .rem 22 v1 (.i .u64 3) fun v2 =>
 evConv2 tbx mtab 22 3 v2 h n fun v3 h n =>
 evBin2 tbx .add 3 (.i .i64 2) v3 fun v4 =>
 cf 16 [v4] h n fun v5 h n =>
 cf 28 [(.s 1 99), v5] h n fun v6 h n =>
 evBuildSl tbx 30 1 [(0, v6)] h n fun v7 h n =>
 cf 28 [(.s 1 98), (.s 1 49)] h n fun v8 h n =>
 evBuildSl tbx 30 1 [(0, v8)] h n fun v9 h n =>
 evBuild tbx 32 [(1, (.s 1 103)), (2, (.s 1 97)), (3, (.s 1 49)), (6, v7), (7, v9)] fun v10 =>
 evAlloc tbx 32 h n fun v11 h n =>
 evStore tbx 32 v11 v10 h n fun _ h n =>
 jp (fun (s12 : VT [1, 5, 6]) h n =>
 pc s12 fun v14 s15 =>
 pc s15 fun v16 s17 =>
 pc s17 fun v18 s19 =>
 evLoad tbx 32 v18 h fun v20 =>
 cf 18 [v20] h n fun v21 h n =>
 evExt 0 v21 fun v22 =>
 evExt 1 v21 fun v23 =>
 evBuild tbx 24 [(0, (.s 1 103)), (1, (.s 1 97)), (2, (.s 1 49))] fun v24 =>
 evBuild tbx 37 [(0, v24), (1, v22)] fun v25 =>
 cf 28 [(.s 1 99), (.s 1 49)] h n fun v26 h n =>
 evBuildSl tbx 30 1 [(0, v26)] h n fun v27 h n =>
 cf 27 [(.s 1 98), (.s 1 49), v27] h n fun v28 h n =>
 evBuildSl tbx 28 2 [(0, v25), (1, v28)] h n fun v29 h n =>
 jp (fun (s30 : VT [1, 5, 9]) h n =>
 pc s30 fun v32 s33 =>
 pc s33 fun v34 s35 =>
 pc s35 fun v36 s37 =>
 cf 19 [v36] h n fun v38 h n =>
 evExt 0 v38 fun v39 =>
 evExt 1 v38 fun v40 =>
 evIa tbx 28 v36 (.i .i64 0) fun v41 =>
 evFa tbx 37 0 v41 fun v42 =>
 evLoad tbx 24 v42 h fun v43 =>
 cf 29 [v39, v43] h n fun v44 h n =>
 evExt 0 v44 fun v45 =>
 evExt 1 v44 fun v46 =>
 evAlloc tbx 66 h n fun v47 h n =>
 evStore tbx 66 v47 v45 h n fun _ h n =>
 cf 30 [] h n fun v48 h n =>
 evUn .not v48 fun v49 =>
 jp (fun (v50 : V) h n =>
 jp (fun (v52 : V) h n =>
 evPick v49 (.b true) v52 fun v54 =>
 jp (fun (v55 : V) h n =>
 jp (fun (v57 : V) h n =>
 evPick v54 (.b true) v57 fun v59 =>
 brB v59 (
 k (.b false) h n) (
 evFa tbx 66 1 v47 fun v60 =>
 evLoad tbx 64 v60 h fun v61 =>
 evLen tbx 64 v61 fun v62 =>
 evBin2 tbx .sub 3 v62 (.i .i64 1) fun v63 =>
 brB v32 (
 evBin2 tbx .eql 3 v63 (.i .i64 2) fun v64 =>
 jp (fun (v65 : V) h n =>
 jp (fun (v67 : V) h n =>
 jp (fun (v69 : V) h n =>
 jp (fun (v71 : V) h n =>
 jp (fun (v73 : V) h n =>
 jp (fun (v75 : V) h n =>
 jp (fun (v77 : V) h n =>
 evPick v64 v77 (.b false) fun v79 =>
 jp (fun (v80 : V) h n =>
 jp (fun (v82 : V) h n =>
 jp (fun (v84 : V) h n =>
 jp (fun (v86 : V) h n =>
 jp (fun (v88 : V) h n =>
 jp (fun (v90 : V) h n =>
 evPick v79 v90 (.b false) fun v92 =>
 jp (fun (v93 : V) h n =>
 jp (fun (v95 : V) h n =>
 jp (fun (v97 : V) h n =>
 jp (fun (v99 : V) h n =>
 jp (fun (v101 : V) h n =>
 jp (fun (v103 : V) h n =>
 jp (fun (v105 : V) h n =>
 jp (fun (v107 : V) h n =>
 evPick v92 v107 (.b false) fun v109 =>
 jp (fun (v110 : V) h n =>
 jp (fun (v112 : V) h n =>
 jp (fun (v114 : V) h n =>
 jp (fun (v116 : V) h n =>
 jp (fun (v118 : V) h n =>
 jp (fun (v120 : V) h n =>
 evPick v109 v120 (.b false) fun v122 =>
 k v122 h n) fun kk121 =>
 gdB v109 true ((evBin2 tbx .eql 3 v118 (.i .i64 2) fun v => kk121 v h n)) (kk121 (.tp []) h n)) fun kk119 =>
 gdB v109 true ((evLoad tbx 3 v116 h fun v => kk119 v h n)) (kk119 (.tp []) h n)) fun kk117 =>
 gdB v109 true ((evFa tbx 70 3 v114 fun v => kk117 v h n)) (kk117 (.tp []) h n)) fun kk115 =>
 gdB v109 true ((evIa tbx 64 v112 (.i .i64 2) fun v => kk115 v h n)) (kk115 (.tp []) h n)) fun kk113 =>
 gdB v109 true ((evLoad tbx 64 v110 h fun v => kk113 v h n)) (kk113 (.tp []) h n)) fun kk111 =>
 gdB v109 true ((evFa tbx 66 1 v47 fun v => kk111 v h n)) (kk111 (.tp []) h n)) fun kk108 =>
 gdB v92 true ((evBin2 tbx .eql 9 v103 v105 fun v => kk108 v h n)) (kk108 (.tp []) h n)) fun kk106 =>
 gdB v92 true (kk106 v34 h n) (kk106 (.tp []) h n)) fun kk104 =>
 gdB v92 true ((evLoad tbx 9 v101 h fun v => kk104 v h n)) (kk104 (.tp []) h n)) fun kk102 =>
 gdB v92 true ((evFa tbx 51 2 v99 fun v => kk102 v h n)) (kk102 (.tp []) h n)) fun kk100 =>
 gdB v92 true ((evFa tbx 70 2 v97 fun v => kk100 v h n)) (kk100 (.tp []) h n)) fun kk98 =>
 gdB v92 true ((evIa tbx 64 v95 (.i .i64 2) fun v => kk98 v h n)) (kk98 (.tp []) h n)) fun kk96 =>
 gdB v92 true ((evLoad tbx 64 v93 h fun v => kk96 v h n)) (kk96 (.tp []) h n)) fun kk94 =>
 gdB v92 true ((evFa tbx 66 1 v47 fun v => kk94 v h n)) (kk94 (.tp []) h n)) fun kk91 =>
 gdB v79 true ((evBin2 tbx .eql 3 v88 (.i .i64 1) fun v => kk91 v h n)) (kk91 (.tp []) h n)) fun kk89 =>
 gdB v79 true ((evLoad tbx 3 v86 h fun v => kk89 v h n)) (kk89 (.tp []) h n)) fun kk87 =>
 gdB v79 true ((evFa tbx 70 3 v84 fun v => kk87 v h n)) (kk87 (.tp []) h n)) fun kk85 =>
 gdB v79 true ((evIa tbx 64 v82 (.i .i64 1) fun v => kk85 v h n)) (kk85 (.tp []) h n)) fun kk83 =>
 gdB v79 true ((evLoad tbx 64 v80 h fun v => kk83 v h n)) (kk83 (.tp []) h n)) fun kk81 =>
 gdB v79 true ((evFa tbx 66 1 v47 fun v => kk81 v h n)) (kk81 (.tp []) h n)) fun kk78 =>
 gdB v64 true ((evBin2 tbx .eql 9 v75 (.s 1 49) fun v => kk78 v h n)) (kk78 (.tp []) h n)) fun kk76 =>
 gdB v64 true ((evLoad tbx 9 v73 h fun v => kk76 v h n)) (kk76 (.tp []) h n)) fun kk74 =>
 gdB v64 true ((evFa tbx 51 2 v71 fun v => kk74 v h n)) (kk74 (.tp []) h n)) fun kk72 =>
 gdB v64 true ((evFa tbx 70 2 v69 fun v => kk72 v h n)) (kk72 (.tp []) h n)) fun kk70 =>
 gdB v64 true ((evIa tbx 64 v67 (.i .i64 1) fun v => kk70 v h n)) (kk70 (.tp []) h n)) fun kk68 =>
 gdB v64 true ((evLoad tbx 64 v65 h fun v => kk68 v h n)) (kk68 (.tp []) h n)) fun kk66 =>
 gdB v64 true ((evFa tbx 66 1 v47 fun v => kk66 v h n)) (kk66 (.tp []) h n)) (
 evBin2 tbx .eql 3 v63 (.i .i64 1) fun v123 =>
 jp (fun (v124 : V) h n =>
 jp (fun (v126 : V) h n =>
 jp (fun (v128 : V) h n =>
 jp (fun (v130 : V) h n =>
 jp (fun (v132 : V) h n =>
 jp (fun (v134 : V) h n =>
 jp (fun (v136 : V) h n =>
 jp (fun (v138 : V) h n =>
 evPick v123 v138 (.b false) fun v140 =>
 jp (fun (v141 : V) h n =>
 jp (fun (v143 : V) h n =>
 jp (fun (v145 : V) h n =>
 jp (fun (v147 : V) h n =>
 jp (fun (v149 : V) h n =>
 jp (fun (v151 : V) h n =>
 evPick v140 v151 (.b false) fun v153 =>
 k v153 h n) fun kk152 =>
 gdB v140 true ((evBin2 tbx .eql 3 v149 (.i .i64 1) fun v => kk152 v h n)) (kk152 (.tp []) h n)) fun kk150 =>
 gdB v140 true ((evLoad tbx 3 v147 h fun v => kk150 v h n)) (kk150 (.tp []) h n)) fun kk148 =>
 gdB v140 true ((evFa tbx 70 3 v145 fun v => kk148 v h n)) (kk148 (.tp []) h n)) fun kk146 =>
 gdB v140 true ((evIa tbx 64 v143 (.i .i64 1) fun v => kk146 v h n)) (kk146 (.tp []) h n)) fun kk144 =>
 gdB v140 true ((evLoad tbx 64 v141 h fun v => kk144 v h n)) (kk144 (.tp []) h n)) fun kk142 =>
 gdB v140 true ((evFa tbx 66 1 v47 fun v => kk142 v h n)) (kk142 (.tp []) h n)) fun kk139 =>
 gdB v123 true ((evBin2 tbx .eql 9 v134 v136 fun v => kk139 v h n)) (kk139 (.tp []) h n)) fun kk137 =>
 gdB v123 true (kk137 v34 h n) (kk137 (.tp []) h n)) fun kk135 =>
 gdB v123 true ((evLoad tbx 9 v132 h fun v => kk135 v h n)) (kk135 (.tp []) h n)) fun kk133 =>
 gdB v123 true ((evFa tbx 51 2 v130 fun v => kk133 v h n)) (kk133 (.tp []) h n)) fun kk131 =>
 gdB v123 true ((evFa tbx 70 2 v128 fun v => kk131 v h n)) (kk131 (.tp []) h n)) fun kk129 =>
 gdB v123 true ((evIa tbx 64 v126 (.i .i64 1) fun v => kk129 v h n)) (kk129 (.tp []) h n)) fun kk127 =>
 gdB v123 true ((evLoad tbx 64 v124 h fun v => kk127 v h n)) (kk127 (.tp []) h n)) fun kk125 =>
 gdB v123 true ((evFa tbx 66 1 v47 fun v => kk125 v h n)) (kk125 (.tp []) h n)))) fun kk58 =>
 gdB v54 false ((evBin2 tbx .neq 33 v55 (.i .i64 0) fun v => kk58 v h n)) (kk58 (.tp []) h n)) fun kk56 =>
 gdB v54 false (kk56 v46 h n) (kk56 (.tp []) h n)) fun kk53 =>
 gdB v49 false ((evBin2 tbx .neq 33 v50 (.i .i64 0) fun v => kk53 v h n)) (kk53 (.tp []) h n)) fun kk51 =>
 gdB v49 false (kk51 v40 h n) (kk51 (.tp []) h n)) fun kk31 =>
 lpC [1, 5, 9, 10] (fun lo155 s154 h n =>
 pc s154 fun v156 s157 =>
 pc s157 fun v158 s159 =>
 pc s159 fun v160 s161 =>
 pc s161 fun v162 s163 =>
 evBin2 tbx .lss 3 v162 (.i .i64 6) fun v164 =>
 brB v164 (
 jp (fun (s165 : VT [1, 5, 9, 10]) h n =>
 pc s165 fun v167 s168 =>
 pc s168 fun v169 s170 =>
 pc s170 fun v171 s172 =>
 pc s172 fun v173 s174 =>
 evBin2 tbx .add 3 v173 (.i .i64 1) fun v175 =>
 lo155 (v167, v169, v171, v175, ()) h n) fun kk166 =>
 cf 16 [v162] h n fun v176 h n =>
 cf 27 [(.s 1 99), v176, .ns] h n fun v177 h n =>
 evBuildSl tbx 28 1 [(0, v177)] h n fun v178 h n =>
 evApp tbx 28 28 v160 v178 h n fun v179 h n =>
 kk166 (v156, v158, v179, v162, ()) h n) (
 kk31 (v156, v158, v160, ()) h n)) fu (v14, v16, v29, (.i .i64 1), ()) h n) fun kk13 =>
 brB a1 (
 evFa tbx 32 7 v11 fun v180 =>
 evLoad tbx 30 v180 h fun v181 =>
 evLoad tbx 30 v180 h fun w188 => cond (eqV 6 w188 v181) (
 cf 28 [(.s 1 99), (.s 1 49)] h n fun v182 h n =>
 evLoad tbx 30 v180 h fun w187 => cond (eqV 6 w187 v181) (
 evBuildSl tbx 30 1 [(0, v182)] h n fun v183 h n =>
 evLoad tbx 30 v180 h fun w186 => cond (eqV 6 w186 v181) (
 evApp tbx 30 30 v181 v183 h n fun v184 h n =>
 evFa tbx 32 7 v11 fun v185 =>
 evStore tbx 30 v185 v184 h n fun _ h n =>
 kk13 (a1, v5, v11, ()) h n) none) none) none) (
 kk13 (a1, v5, v11, ()) h n)
noncomputable def e12 : FE := ⟨Tryz.f12, bd Tryz.f12, [0, 1], [4], (.q .z (.q .z (.q .z (.s [1, 5, 6] (.q .z (.c .z .z)) (.q .z (.q .z (.q (.q .z (.b [1, 5, 9] (.l [1, 5, 9, 10] (.q (.q .z (.c .z .z)) (.q (.b [1, 5, 9, 10] .z) .z))))) (.q .z (.q .z (.q (.q .z (.c (.q .z .z) .z)) (.q .z (.q (.q .z (.c (.q .z .z) .z)) (.q .z .z)))))))))))))⟩
theorem q12 (fu : Nat) (cf : CF) (a0 a1 : V) (h : H) (n : Id) (k : KV) : evF fu cf e12 [a0, a1] h n k = s12 fu cf a0 a1 h n k := by kernel_rfl
theorem p12 : PfOk Tryz.prog tbx mtab 12 (w2 (s12 fuX)) := pfo e12 Tryz.func12 (by kernel_rfl) (w2_ok (q12 fuX))
noncomputable def s13 (fu : Nat) (cf : CF) (a0 a1 : V) (h : H) (n : Id) (k : KV) : R :=
 evConv2 tbx mtab 3 22 a0 h n fun v1 h n =>
 evBin2 tbx .rem 22 v1 (.i .u64 6) fun v2 =>
 evConv2 tbx mtab 22 3 v2 h n fun v3 h n =>
 evBin2 tbx .add 3 (.i .i64 2) v3 fun v4 =>
 jp (fun (s5 : VT [0, 5]) h n =>
 pc s5 fun v7 s8 =>
 pc s8 fun v9 s10 =>
 cf 19 [v9] h n fun v11 h n =>
 evExt 0 v11 fun v12 =>
 evExt 1 v11 fun v13 =>
 evIa tbx 28 v9 (.i .i64 0) fun v14 =>
 evFa tbx 37 0 v14 fun v15 =>
 evLoad tbx 24 v15 h fun v16 =>
 cf 29 [v12, v16] h n fun v17 h n =>
 evExt 0 v17 fun v18 =>
 evExt 1 v17 fun v19 =>
 evAlloc tbx 66 h n fun v20 h n =>
 evStore tbx 66 v20 v18 h n fun _ h n =>
 cf 30 [] h n fun v21 h n =>
 evUn .not v21 fun v22 =>
 jp (fun (v23 : V) h n =>
 jp (fun (v25 : V) h n =>
 evPick v22 (.b true) v25 fun v27 =>
 jp (fun (v28 : V) h n =>
 jp (fun (v30 : V) h n =>
 evPick v27 (.b true) v30 fun v32 =>
 jp (fun (v33 : V) h n =>
 jp (fun (v35 : V) h n =>
 jp (fun (v37 : V) h n =>
 jp (fun (v39 : V) h n =>
 jp (fun (v41 : V) h n =>
 evPick v32 (.b true) v41 fun v43 =>
 brB v43 (
 k (.b false) h n) (
 jp (fun (s44 : VT []) h n =>
 k (.b true) h n) fun kk45 =>
 lpC [0, 10, 12] (fun lo47 s46 h n =>
 pc s46 fun v48 s49 =>
 pc s49 fun v50 s51 =>
 pc s51 fun v52 s53 =>
 evBin2 tbx .lss 3 v52 v48 fun v54 =>
 brB v54 (
 jp (fun (s55 : VT [0, 10, 12]) h n =>
 pc s55 fun v57 s58 =>
 pc s58 fun v59 s60 =>
 pc s60 fun v61 s62 =>
 evBin2 tbx .add 3 v61 (.i .i64 1) fun v63 =>
 lo47 (v57, v59, v63, ()) h n) fun kk56 =>
 jp (fun (s64 : VT [0, 10, 12, 13]) h n =>
 pc s64 fun v66 s67 =>
 pc s67 fun v68 s69 =>
 pc s69 fun v70 s71 =>
 pc s71 fun v72 s73 =>
 evFa tbx 66 1 v68 fun v74 =>
 evLoad tbx 64 v74 h fun v75 =>
 evIa tbx 64 v75 v70 fun v76 =>
 evFa tbx 70 3 v76 fun v77 =>
 evLoad tbx 3 v77 h fun v78 =>
 evBin2 tbx .neq 3 v78 v72 fun v79 =>
 jp (fun (v80 : V) h n =>
 jp (fun (v82 : V) h n =>
 jp (fun (v84 : V) h n =>
 jp (fun (v86 : V) h n =>
 jp (fun (v88 : V) h n =>
 jp (fun (v90 : V) h n =>
 jp (fun (v92 : V) h n =>
 jp (fun (v94 : V) h n =>
 jp (fun (v96 : V) h n =>
 evPick v79 (.b true) v96 fun v98 =>
 jp (fun (v99 : V) h n =>
 jp (fun (v101 : V) h n =>
 jp (fun (v103 : V) h n =>
 jp (fun (v105 : V) h n =>
 jp (fun (v107 : V) h n =>
 jp (fun (v109 : V) h n =>
 jp (fun (v111 : V) h n =>
 evPick v98 (.b true) v111 fun v113 =>
 brB v113 (
 k (.b false) h n) (
 kk56 (v66, v68, v70, ()) h n)) fun kk112 =>
 gdB v98 false ((evBin2 tbx .neq 3 v109 (.i .i64 0) fun v => kk112 v h n)) (kk112 (.tp []) h n)) fun kk110 =>
 gdB v98 false ((evLoad tbx 3 v107 h fun v => kk110 v h n)) (kk110 (.tp []) h n)) fun kk108 =>
 gdB v98 false ((evFa tbx 70 1 v105 fun v => kk108 v h n)) (kk108 (.tp []) h n)) fun kk106 =>
 gdB v98 false ((evIa tbx 64 v101 v103 fun v => kk106 v h n)) (kk106 (.tp []) h n)) fun kk104 =>
 gdB v98 false (kk104 v70 h n) (kk104 (.tp []) h n)) fun kk102 =>
 gdB v98 false ((evLoad tbx 64 v99 h fun v => kk102 v h n)) (kk102 (.tp []) h n)) fun kk100 =>
 gdB v98 false ((evFa tbx 66 1 v68 fun v => kk100 v h n)) (kk100 (.tp []) h n)) fun kk97 =>
 gdB v79 false ((evBin2 tbx .neq 3 v90 v94 fun v => kk97 v h n)) (kk97 (.tp []) h n)) fun kk95 =>
 gdB v79 false ((evBin2 tbx .sub 3 v92 (.i .i64 1) fun v => kk95 v h n)) (kk95 (.tp []) h n)) fun kk93 =>
 gdB v79 false (kk93 v70 h n) (kk93 (.tp []) h n)) fun kk91 =>
 gdB v79 false ((evLoad tbx 3 v88 h fun v => kk91 v h n)) (kk91 (.tp []) h n)) fun kk89 =>
 gdB v79 false ((evFa tbx 70 0 v86 fun v => kk89 v h n)) (kk89 (.tp []) h n)) fun kk87 =>
 gdB v79 false ((evIa tbx 64 v82 v84 fun v => kk87 v h n)) (kk87 (.tp []) h n)) fun kk85 =>
 gdB v79 false (kk85 v70 h n) (kk85 (.tp []) h n)) fun kk83 =>
 gdB v79 false ((evLoad tbx 64 v80 h fun v => kk83 v h n)) (kk83 (.tp []) h n)) fun kk81 =>
 gdB v79 false ((evFa tbx 66 1 v68 fun v => kk81 v h n)) (kk81 (.tp []) h n)) fun kk65 =>
 evBin2 tbx .sub 3 v48 (.i .i64 1) fun v114 =>
 evBin2 tbx .eql 3 v52 v114 fun v115 =>
 brB v115 (
 kk65 (v48, v50, v52, (.i .i64 4), ()) h n) (
 kk65 (v48, v50, v52, (.i .i64 1), ()) h n)) (
 kk45 (()) h n)) fu (v7, v20, (.i .i64 0), ()) h n)) fun kk42 =>
 gdB v32 false ((evBin2 tbx .neq 3 v37 v39 fun v => kk42 v h n)) (kk42 (.tp []) h n)) fun kk40 =>
 gdB v32 false (kk40 v7 h n) (kk40 (.tp []) h n)) fun kk38 =>
 gdB v32 false ((evLen tbx 64 v35 fun v => kk38 v h n)) (kk38 (.tp []) h n)) fun kk36 =>
 gdB v32 false ((evLoad tbx 64 v33 h fun v => kk36 v h n)) (kk36 (.tp []) h n)) fun kk34 =>
 gdB v32 false ((evFa tbx 66 1 v20 fun v => kk34 v h n)) (kk34 (.tp []) h n)) fun kk31 =>
 gdB v27 false ((evBin2 tbx .neq 33 v28 (.i .i64 0) fun v => kk31 v h n)) (kk31 (.tp []) h n)) fun kk29 =>
 gdB v27 false (kk29 v19 h n) (kk29 (.tp []) h n)) fun kk26 =>
 gdB v22 false ((evBin2 tbx .neq 33 v23 (.i .i64 0) fun v => kk26 v h n)) (kk26 (.tp []) h n)) fun kk24 =>
 gdB v22 false (kk24 v13 h n) (kk24 (.tp []) h n)) fun kk6 =>
 lpC [0, 1, 5, 6] (fun lo117 s116 h n =>
 pc s116 fun v118 s119 =>
 pc s119 fun v120 s121 =>
 pc s121 fun v122 s123 =>
 pc s123 fun v124 s125 =>
 evBin2 tbx .lss 3 v124 v118 fun v126 =>
 brB v126 (
 jp (fun (s127 : VT [0, 1, 5, 6]) h n =>
 pc s127 fun v129 s130 =>
 pc s130 fun v131 s132 =>
 pc s132 fun v133 s134 =>
 pc s134 fun v135 s136 =>
 evBin2 tbx .add 3 v135 (.i .i64 1) fun v137 =>
 lo117 (v129, v131, v133, v137, ()) h n) fun kk128 =>
 evBin2 tbx .add 3 v124 (.i .i64 1) fun v138 =>
 evBin2 tbx .rem 3 v138 v118 fun v139 =>
 cf 16 [v139] h n fun v140 h n =>
 evBin2 tbx .add 9 (.s 1 112) v140 fun v141 =>
 cf 28 [v141, (.s 1 49)] h n fun v142 h n =>
 evAlloc tbx 51 h n fun v143 h n =>
 evStore tbx 51 v143 v142 h n fun _ h n =>
 jp (fun (s144 : VT [0, 1, 5, 6, 7]) h n =>
 pc s144 fun v146 s147 =>
 pc s147 fun v148 s149 =>
 pc s149 fun v150 s151 =>
 pc s151 fun v152 s153 =>
 pc s153 fun v154 s155 =>
 evLoad tbx 51 v154 h fun v156 =>
 alB n fun n' => sliA tbx 30 1 [(0, v156)] fun x mk => 
 (fun (v157 : V) h n =>
 evLoad tbx 51 v154 h fun w164 => cond (eqV 6 w164 v156) (
 ckO (vId v157) h fun id x' => sliA tbx 30 1 [(0, v156)] fun x mk => cond (eqO x' x) (cond (eqV 6 (mk id) v157) (
 cf 16 [v152] h n fun v158 h n =>
 evBin2 tbx .add 9 (.s 1 112) v158 fun v159 =>
 evLoad tbx 51 v154 h fun w163 => cond (eqV 6 w163 v156) (
 ckO (vId v157) h fun id x' => sliA tbx 30 1 [(0, v156)] fun x mk => cond (eqO x' x) (cond (eqV 6 (mk id) v157) (
 cf 27 [v159, (.s 1 49), v157] h n fun v160 h n =>
 alB n fun n' => sliA tbx 28 1 [(0, v160)] fun x mk => 
 (fun (v161 : V) h n =>
 ckO (vId v161) h fun id x' => sliA tbx 28 1 [(0, v160)] fun x mk => cond (eqO x' x) (cond (eqV 6 (mk id) v161) (
 evApp tbx 28 28 v150 v161 h n fun v162 h n =>
 kk128 (v146, v148, v162, v152, ()) h n) none) none) (mk n) (hset x n h) n') none) none) none) none) none) none) (mk n) (hset x n h) n') fun kk145 =>
 evBin2 tbx .sub 3 v118 (.i .i64 1) fun v165 =>
 evBin2 tbx .eql 3 v124 v165 fun v166 =>
 jp (fun (v167 : V) h n =>
 evPick v166 v167 (.b false) fun v169 =>
 brB v169 (
 evFa tbx 51 2 v143 fun v170 =>
 evStore tbx 9 v170 (.s 1 50) h n fun _ h n =>
 kk145 (v118, v120, v122, v124, v143, ()) h n) (
 kk145 (v118, v120, v122, v124, v143, ()) h n)) fun kk168 =>
 gdB v166 true (kk168 v120 h n) (kk168 (.tp []) h n)) (
 kk6 (v118, v122, ()) h n)) fu (v4, a1, .ns, (.i .i64 0), ()) h n
noncomputable def e13 : FE := ⟨Tryz.f13, bd Tryz.f13, [0, 1], [4], (.q .z (.q .z (.q .z (.q (.q .z (.b [0, 5] (.l [0, 1, 5, 6] (.q (.q .z (.c .z .z)) (.q (.b [0, 1, 5, 6] (.q .z (.s [0, 1, 5, 6, 7] (.q .z (.c .z .z)) .z))) .z))))) (.q .z (.q .z (.q (.q .z (.c (.q .z .z) .z)) (.q (.q .z (.b [] (.l [0, 10, 12] (.q (.q .z (.c .z .z)) (.q (.b [0, 10, 12] (.q .z (.s [0, 10, 12, 13] (.q .z (.c .z .z)) (.q .z (.c (.q .z .z) .z))))) .z))))) (.q .z .z)))))))))⟩
theorem q13 (fu : Nat) (cf : CF) (a0 a1 : V) (h : H) (n : Id) (k : KV) : evF fu cf e13 [a0, a1] h n k = s13 fu cf a0 a1 h n k := by kernel_rfl
theorem p13 : PfOk Tryz.prog tbx mtab 13 (w2 (s13 fuX)) := pfo e13 Tryz.func13 (by kernel_rfl) (w2_ok (q13 fuX))
noncomputable def s14 (fu : Nat) (cf : CF) (a0 : V) (h : H) (n : Id) (k : KV) : R :=
 cf 28 [(.s 1 98), (.s 1 49)] h n fun v1 h n =>
 cf 28 [(.s 1 98), (.s 1 49)] h n fun v2 h n =>
 evAlloc tbx 51 h n fun v3 h n =>
 evAlloc tbx 51 h n fun v4 h n =>
 evStore tbx 51 v3 v1 h n fun _ h n =>
 evStore tbx 51 v4 v2 h n fun _ h n =>
 evConv2 tbx mtab 3 22 a0 h n fun v5 h n =>
 evBin2 tbx .rem 22 v5 (.i .u64 4) fun v6 =>
 jp (fun (s7 : VT [3, 4, 5]) h n =>
 pc s7 fun v9 s10 =>
 pc s10 fun v11 s12 =>
 pc s12 fun v13 s14 =>
 evLoad tbx 51 v9 h fun v15 =>
 evLoad tbx 51 v11 h fun v16 =>
 alB n fun n' => sliA tbx 30 1 [(0, v16)] fun x mk => 
 (fun (v17 : V) h n =>
 evLoad tbx 51 v9 h fun w98 => cond (eqV 6 w98 v15) (
 evLoad tbx 51 v11 h fun w97 => cond (eqV 6 w97 v16) (
 ckO (vId v17) h fun id x' => sliA tbx 30 1 [(0, v16)] fun x mk => cond (eqO x' x) (cond (eqV 6 (mk id) v17) (
 cf 28 [(.s 1 109), (.s 1 49)] h n fun v18 h n =>
 alB n fun n' => sliA tbx 30 2 [(0, v18), (1, v15)] fun x mk => 
 (fun (v19 : V) h n =>
 evLoad tbx 51 v9 h fun w96 => cond (eqV 6 w96 v15) (
 ckO (vId v19) h fun id x' => sliA tbx 30 2 [(0, v18), (1, v15)] fun x mk => cond (eqO x' x) (cond (eqV 6 (mk id) v19) (
 evLoad tbx 51 v11 h fun w95 => cond (eqV 6 w95 v16) (
 ckO (vId v17) h fun id x' => sliA tbx 30 1 [(0, v16)] fun x mk => cond (eqO x' x) (cond (eqV 6 (mk id) v17) (
 cf 27 [(.s 1 97), (.s 1 49), v19] h n fun v20 h n =>
 evLoad tbx 51 v11 h fun w94 => cond (eqV 6 w94 v16) (
 ckO (vId v17) h fun id x' => sliA tbx 30 1 [(0, v16)] fun x mk => cond (eqO x' x) (cond (eqV 6 (mk id) v17) (
 cf 27 [(.s 1 109), (.s 1 49), v17] h n fun v21 h n =>
 cf 27 [(.s 1 98), (.s 1 49), .ns] h n fun v22 h n =>
 cf 27 [(.s 1 98), (.s 1 50), .ns] h n fun v23 h n =>
 alB n fun n' => sliA tbx 28 4 [(0, v20), (1, v21), (2, v22), (3, v23)] fun x mk => 
 (fun (v24 : V) h n =>
 ckO (vId v24) h fun id x' => sliA tbx 28 4 [(0, v20), (1, v21), (2, v22), (3, v23)] fun x mk => cond (eqO x' x) (cond (eqV 6 (mk id) v24) (
 cf 19 [v24] h n fun v25 h n =>
 evExt 0 v25 fun v26 =>
 evExt 1 v25 fun v27 =>
 evBuild tbx 24 [(0, (.s 1 103)), (1, (.s 1 97)), (2, (.s 1 49))] fun v28 =>
 cf 29 [v26, v28] h n fun v29 h n =>
 evExt 0 v29 fun v30 =>
 evExt 1 v29 fun v31 =>
 evAlloc tbx 66 h n fun v32 h n =>
 evStore tbx 66 v32 v30 h n fun _ h n =>
 cf 30 [] h n fun v33 h n =>
 jp (fun (v34 : V) h n =>
 jp (fun (v36 : V) h n =>
 evPick v33 v36 (.b false) fun v38 =>
 jp (fun (v39 : V) h n =>
 jp (fun (v41 : V) h n =>
 evPick v38 v41 (.b false) fun v43 =>
 jp (fun (v44 : V) h n =>
 jp (fun (v46 : V) h n =>
 jp (fun (v48 : V) h n =>
 jp (fun (v50 : V) h n =>
 evPick v43 v50 (.b false) fun v52 =>
 jp (fun (v53 : V) h n =>
 jp (fun (v55 : V) h n =>
 jp (fun (v57 : V) h n =>
 jp (fun (v59 : V) h n =>
 jp (fun (v61 : V) h n =>
 jp (fun (v63 : V) h n =>
 evPick v52 v63 (.b false) fun v65 =>
 jp (fun (v66 : V) h n =>
 jp (fun (v68 : V) h n =>
 jp (fun (v70 : V) h n =>
 jp (fun (v72 : V) h n =>
 jp (fun (v74 : V) h n =>
 jp (fun (v76 : V) h n =>
 jp (fun (v78 : V) h n =>
 evPick v65 v78 (.b false) fun v80 =>
 jp (fun (v81 : V) h n =>
 jp (fun (v83 : V) h n =>
 jp (fun (v85 : V) h n =>
 jp (fun (v87 : V) h n =>
 jp (fun (v89 : V) h n =>
 jp (fun (v91 : V) h n =>
 evPick v80 v91 (.b false) fun v93 =>
 k v93 h n) fun kk92 =>
 gdB v80 true ((evBin2 tbx .eql 3 v89 (.i .i64 0) fun v => kk92 v h n)) (kk92 (.tp []) h n)) fun kk90 =>
 gdB v80 true ((evLoad tbx 3 v87 h fun v => kk90 v h n)) (kk90 (.tp []) h n)) fun kk88 =>
 gdB v80 true ((evFa tbx 70 0 v85 fun v => kk88 v h n)) (kk88 (.tp []) h n)) fun kk86 =>
 gdB v80 true ((evIa tbx 64 v83 (.i .i64 2) fun v => kk86 v h n)) (kk86 (.tp []) h n)) fun kk84 =>
 gdB v80 true ((evLoad tbx 64 v81 h fun v => kk84 v h n)) (kk84 (.tp []) h n)) fun kk82 =>
 gdB v80 true ((evFa tbx 66 1 v32 fun v => kk82 v h n)) (kk82 (.tp []) h n)) fun kk79 =>
 gdB v65 true ((evBin2 tbx .eql 3 v74 v76 fun v => kk79 v h n)) (kk79 (.tp []) h n)) fun kk77 =>
 gdB v65 true (kk77 v13 h n) (kk77 (.tp []) h n)) fun kk75 =>
 gdB v65 true ((evLoad tbx 3 v72 h fun v => kk75 v h n)) (kk75 (.tp []) h n)) fun kk73 =>
 gdB v65 true ((evFa tbx 70 3 v70 fun v => kk73 v h n)) (kk73 (.tp []) h n)) fun kk71 =>
 gdB v65 true ((evIa tbx 64 v68 (.i .i64 2) fun v => kk71 v h n)) (kk71 (.tp []) h n)) fun kk69 =>
 gdB v65 true ((evLoad tbx 64 v66 h fun v => kk69 v h n)) (kk69 (.tp []) h n)) fun kk67 =>
 gdB v65 true ((evFa tbx 66 1 v32 fun v => kk67 v h n)) (kk67 (.tp []) h n)) fun kk64 =>
 gdB v52 true ((evBin2 tbx .eql 3 v61 (.i .i64 1) fun v => kk64 v h n)) (kk64 (.tp []) h n)) fun kk62 =>
 gdB v52 true ((evLoad tbx 3 v59 h fun v => kk62 v h n)) (kk62 (.tp []) h n)) fun kk60 =>
 gdB v52 true ((evFa tbx 70 3 v57 fun v => kk60 v h n)) (kk60 (.tp []) h n)) fun kk58 =>
 gdB v52 true ((evIa tbx 64 v55 (.i .i64 1) fun v => kk58 v h n)) (kk58 (.tp []) h n)) fun kk56 =>
 gdB v52 true ((evLoad tbx 64 v53 h fun v => kk56 v h n)) (kk56 (.tp []) h n)) fun kk54 =>
 gdB v52 true ((evFa tbx 66 1 v32 fun v => kk54 v h n)) (kk54 (.tp []) h n)) fun kk51 =>
 gdB v43 true ((evBin2 tbx .eql 3 v48 (.i .i64 3) fun v => kk51 v h n)) (kk51 (.tp []) h n)) fun kk49 =>
 gdB v43 true ((evLen tbx 64 v46 fun v => kk49 v h n)) (kk49 (.tp []) h n)) fun kk47 =>
 gdB v43 true ((evLoad tbx 64 v44 h fun v => kk47 v h n)) (kk47 (.tp []) h n)) fun kk45 =>
 gdB v43 true ((evFa tbx 66 1 v32 fun v => kk45 v h n)) (kk45 (.tp []) h n)) fun kk42 =>
 gdB v38 true ((evBin2 tbx .eql 33 v39 (.i .i64 0) fun v => kk42 v h n)) (kk42 (.tp []) h n)) fun kk40 =>
 gdB v38 true (kk40 v31 h n) (kk40 (.tp []) h n)) fun kk37 =>
 gdB v33 true ((evBin2 tbx .eql 33 v34 (.i .i64 0) fun v => kk37 v h n)) (kk37 (.tp []) h n)) fun kk35 =>
 gdB v33 true (kk35 v27 h n) (kk35 (.tp []) h n)) none) none) (mk n) (hset x n h) n') none) none) none) none) none) none) none) none) none) (mk n) (hset x n h) n') none) none) none) none) (mk n) (hset x n h) n') fun kk8 =>
 evBin2 tbx .eql 22 v6 (.i .u64 0) fun v99 =>
 brB v99 (
 evFa tbx 51 3 v4 fun v100 =>
 evStore tbx 9 v100 (.s 3 7368557) h n fun _ h n =>
 kk8 (v3, v4, (.i .i64 1), ()) h n) (
 evBin2 tbx .eql 22 v6 (.i .u64 1) fun v101 =>
 brB v101 (
 evFa tbx 51 4 v4 fun v102 =>
 evStore tbx 9 v102 (.s 1 99) h n fun _ h n =>
 kk8 (v3, v4, (.i .i64 1), ()) h n) (
 evBin2 tbx .eql 22 v6 (.i .u64 2) fun v103 =>
 brB v103 (
 evFa tbx 51 2 v4 fun v104 =>
 evStore tbx 9 v104 (.s 1 50) h n fun _ h n =>
 kk8 (v3, v4, (.i .i64 2), ()) h n) (
 kk8 (v3, v4, (.i .i64 3), ()) h n)))
noncomputable def e14 : FE := ⟨Tryz.f14, bd Tryz.f14, [0], [2], (.q .z (.q .z (.q .z (.q (.q .z (.b [3, 4, 5] (.q .z (.c .z (.q .z (.c .z (.q .z (.c (.q .z .z) .z)))))))) (.q .z (.q .z (.q .z .z)))))))⟩
theorem q14 (fu : Nat) (cf : CF) (a0 : V) (h : H) (n : Id) (k : KV) : evF fu cf e14 [a0] h n k = s14 fu cf a0 h n k := by kernel_rfl
theorem p14 : PfOk Tryz.prog tbx mtab 14 (w1 (s14 fuX)) := pfo e14 Tryz.func14 (by kernel_rfl) (w1_ok (q14 fuX))
noncomputable def s16 (fu : Nat) (cf : CF) (a0 : V) (h : H) (n : Id) (k : KV) : R :=
 evBin2 tbx .lss 3 a0 (.i .i64 10) fun v1 =>
 brB v1 (
 evBin2 tbx .add 3 (.i .i64 48) a0 fun v2 =>
 evConv2 tbx mtab 3 5 v2 h n fun v3 h n =>
 evBuildSl tbx 73 1 [(0, v3)] h n fun v4 h n =>
 evConv2 tbx mtab 73 9 v4 h n fun v5 h n =>
 k v5 h n) (
 evBin2 tbx .quo 3 a0 (.i .i64 10) fun v6 =>
 evBin2 tbx .rem 3 a0 (.i .i64 10) fun v7 =>
 evBin2 tbx .add 3 (.i .i64 48) v7 fun v8 =>
 evRc tbx 3 5 v8 h fun v9 =>
 alB n fun n' => sliA tbx 73 1 [(0, v9)] fun x mk => 
 (fun (v10 : V) h n =>
 evRc tbx 73 9 v10 h fun v11 =>
 evRc tbx 3 5 v8 h fun w17 => cond (eqV 6 w17 v9) (
 ckO (vId v10) h fun id x' => sliA tbx 73 1 [(0, v9)] fun x mk => cond (eqO x' x) (cond (eqV 6 (mk id) v10) (
 evRc tbx 73 9 v10 h fun w16 => cond (eqV 6 w16 v11) (
 cf 16 [v6] h n fun v12 h n =>
 evBin2 tbx .add 9 v12 v11 fun v13 =>
 evRc tbx 3 5 v8 h fun w15 => cond (eqV 6 w15 v9) (
 ckO (vId v10) h fun id x' => sliA tbx 73 1 [(0, v9)] fun x mk => cond (eqO x' x) (cond (eqV 6 (mk id) v10) (
 evRc tbx 73 9 v10 h fun w14 => cond (eqV 6 w14 v11) (
 k v13 h n) none) none) none) none) none) none) none) none) (mk n) (hset x n h) n')
noncomputable def e16 : FE := ⟨Tryz.f16, bd Tryz.f16, [0], [2], (.q .z (.q (.q .z (.c (.q .z .z) .z)) (.q .z .z)))⟩
theorem q16 (fu : Nat) (cf : CF) (a0 : V) (h : H) (n : Id) (k : KV) : evF fu cf e16 [a0] h n k = s16 fu cf a0 h n k := by kernel_rfl
theorem p16 : PfOk Tryz.prog tbx mtab 16 (w1 (s16 fuX)) := pfo e16 Tryz.func16 (by kernel_rfl) (w1_ok (q16 fuX))
noncomputable def s18 (fu : Nat) (cf : CF) (a0 : V) (h : H) (n : Id) (k : KV) : R :=
 evBox a0 h n fun v1 h n =>
 evLoad tbx 32 v1 h fun v2 =>
 cf 31 [v2] h n fun v3 h n =>
 evUn .not v3 fun v4 =>
 brB v4 (
 k (.tp [(.s 0 0), (.i .i64 10)]) h n) (
 evFa tbx 32 0 v1 fun v5 =>
 evFa tbx 24 0 v5 fun v6 =>
 evLoad tbx 9 v6 h fun v7 =>
 evFa tbx 32 0 v1 fun v8 =>
 evFa tbx 24 1 v8 fun v9 =>
 evLoad tbx 9 v9 h fun v10 =>
 evFa tbx 32 0 v1 fun v11 =>
 evFa tbx 24 2 v11 fun v12 =>
 evLoad tbx 9 v12 h fun v13 =>
 evLoad tbx 9 v6 h fun w122 => cond (eqV 6 w122 v7) (
 evLoad tbx 9 v9 h fun w121 => cond (eqV 6 w121 v10) (
 evLoad tbx 9 v12 h fun w120 => cond (eqV 6 w120 v13) (
 cf 33 [(.s 7 29117745638426980), v7] h n fun v14 h n =>
 evLoad tbx 9 v9 h fun w119 => cond (eqV 6 w119 v10) (
 evLoad tbx 9 v12 h fun w118 => cond (eqV 6 w118 v13) (
 cf 33 [(.s 10 460180866011107895298404), v10] h n fun v15 h n =>
 evBin2 tbx .add 9 v14 v15 fun v16 =>
 evLoad tbx 9 v12 h fun w117 => cond (eqV 6 w117 v13) (
 cf 33 [(.s 7 33325589488824174), v13] h n fun v17 h n =>
 evBin2 tbx .add 9 v16 v17 fun v18 =>
 cf 32 [(.s 6 123563833388660), v18] h n fun v19 h n =>
 evFa tbx 32 1 v1 fun v20 =>
 evLoad tbx 9 v20 h fun v21 =>
 evFa tbx 32 2 v1 fun v22 =>
 evLoad tbx 9 v22 h fun v23 =>
 evFa tbx 32 3 v1 fun v24 =>
 evLoad tbx 9 v24 h fun v25 =>
 evFa tbx 32 4 v1 fun v26 =>
 evLoad tbx 9 v26 h fun v27 =>
 evLoad tbx 9 v20 h fun w116 => cond (eqV 6 w116 v21) (
 evLoad tbx 9 v22 h fun w115 => cond (eqV 6 w115 v23) (
 evLoad tbx 9 v24 h fun w114 => cond (eqV 6 w114 v25) (
 evLoad tbx 9 v26 h fun w113 => cond (eqV 6 w113 v27) (
 cf 33 [(.s 7 29117745638426980), v21] h n fun v28 h n =>
 evBin2 tbx .add 9 v19 v28 fun v29 =>
 evLoad tbx 9 v22 h fun w112 => cond (eqV 6 w112 v23) (
 evLoad tbx 9 v24 h fun w111 => cond (eqV 6 w111 v25) (
 evLoad tbx 9 v26 h fun w110 => cond (eqV 6 w110 v27) (
 cf 33 [(.s 10 460180866011107895298404), v23] h n fun v30 h n =>
 evBin2 tbx .add 9 v29 v30 fun v31 =>
 evLoad tbx 9 v24 h fun w109 => cond (eqV 6 w109 v25) (
 evLoad tbx 9 v26 h fun w108 => cond (eqV 6 w108 v27) (
 cf 33 [(.s 7 33325589488824174), v25] h n fun v32 h n =>
 evBin2 tbx .add 9 v31 v32 fun v33 =>
 evLoad tbx 9 v26 h fun w107 => cond (eqV 6 w107 v27) (
 cf 33 [(.s 9 2073052906965934108263), v27] h n fun v34 h n =>
 evBin2 tbx .add 9 v33 v34 fun v35 =>
 jp (fun (s36 : VT [1, 4, 5]) h n =>
 pc s36 fun v38 s39 =>
 pc s39 fun v40 s41 =>
 pc s41 fun v42 s43 =>
 evFa tbx 32 6 v38 fun v44 =>
 evLoad tbx 30 v44 h fun v45 =>
 evFa tbx 32 7 v38 fun v46 =>
 evLoad tbx 30 v46 h fun v47 =>
 evLoad tbx 30 v44 h fun w63 => cond (eqV 6 w63 v45) (
 evLoad tbx 30 v46 h fun w62 => cond (eqV 6 w62 v47) (
 cf 32 [(.s 10 531016004935481008153971), v42] h n fun v48 h n =>
 evBin2 tbx .add 9 v40 v48 fun v49 =>
 evLoad tbx 30 v44 h fun w61 => cond (eqV 6 w61 v45) (
 evLoad tbx 30 v46 h fun w60 => cond (eqV 6 w60 v47) (
 cf 35 [v45] h n fun v50 h n =>
 evLoad tbx 30 v46 h fun w59 => cond (eqV 6 w59 v47) (
 cf 32 [(.s 20 573161243438715328014466462588970593706563694196), v50] h n fun v51 h n =>
 evBin2 tbx .add 9 v49 v51 fun v52 =>
 evLoad tbx 30 v46 h fun w58 => cond (eqV 6 w58 v47) (
 cf 35 [v47] h n fun v53 h n =>
 evBin2 tbx .add 9 v52 v53 fun v54 =>
 cf 32 [(.s 7 31651020243559284), v54] h n fun v55 h n =>
 evLen tbx 9 v55 fun v56 =>
 evBin2 tbx .gtr 3 v56 (.i .i64 20000) fun v57 =>
 brB v57 (
 k (.tp [(.s 0 0), (.i .i64 3)]) h n) (
 k (.tp [v55, (.i .i64 0)]) h n)) none) none) none) none) none) none) fun kk37 =>
 lpC [1, 4, 5, 6] (fun lo65 s64 h n =>
 pc s64 fun v66 s67 =>
 pc s67 fun v68 s69 =>
 pc s69 fun v70 s71 =>
 pc s71 fun v72 s73 =>
 evFa tbx 32 5 v66 fun v74 =>
 evLoad tbx 29 v74 h fun v75 =>
 evLen tbx 29 v75 fun v76 =>
 evBin2 tbx .lss 3 v72 v76 fun v77 =>
 brB v77 (
 jp (fun (s78 : VT [1, 4, 5, 6]) h n =>
 pc s78 fun v80 s81 =>
 pc s81 fun v82 s83 =>
 pc s83 fun v84 s85 =>
 pc s85 fun v86 s87 =>
 evBin2 tbx .add 3 v86 (.i .i64 1) fun v88 =>
 lo65 (v80, v82, v84, v88, ()) h n) fun kk79 =>
 evFa tbx 32 5 v66 fun v89 =>
 evLoad tbx 29 v89 h fun v90 =>
 evIa tbx 29 v90 v72 fun v91 =>
 evFa tbx 57 0 v91 fun v92 =>
 evLoad tbx 9 v92 h fun v93 =>
 evBin2 tbx .add 9 v70 (.s 1 60) fun v94 =>
 evBin2 tbx .add 9 v94 v93 fun v95 =>
 evBin2 tbx .add 9 v95 (.s 1 62) fun v96 =>
 evFa tbx 32 5 v66 fun v97 =>
 evLoad tbx 29 v97 h fun v98 =>
 evIa tbx 29 v98 v72 fun v99 =>
 evFa tbx 57 1 v99 fun v100 =>
 evLoad tbx 9 v100 h fun v101 =>
 cf 34 [v101] h n fun v102 h n =>
 evBin2 tbx .add 9 v96 v102 fun v103 =>
 evBin2 tbx .add 9 v103 (.s 2 15407) fun v104 =>
 evBin2 tbx .add 9 v104 v93 fun v105 =>
 evBin2 tbx .add 9 v105 (.s 1 62) fun v106 =>
 kk79 (v66, v68, v106, v72, ()) h n) (
 kk37 (v66, v68, v70, ()) h n)) fu (v1, v35, (.s 0 0), (.i .i64 0), ()) h n) none) none) none) none) none) none) none) none) none) none) none) none) none) none) none) none)
noncomputable def e18 : FE := ⟨Tryz.f18, bd Tryz.f18, [0], [2, 3], (.q .z (.q (.q .z (.c (.q .z .z) .z)) (.q .z (.q .z (.q .z (.q (.q .z (.b [1, 4, 5] (.l [1, 4, 5, 6] (.q (.q .z (.c .z .z)) (.q (.b [1, 4, 5, 6] (.q .z .z)) .z))))) (.q .z (.q .z (.q (.q .z (.c (.q .z .z) .z)) (.q .z .z))))))))))⟩
theorem q18 (fu : Nat) (cf : CF) (a0 : V) (h : H) (n : Id) (k : KV) : evF fu cf e18 [a0] h n k = s18 fu cf a0 h n k := by kernel_rfl
theorem p18 : PfOk Tryz.prog tbx mtab 18 (w1 (s18 fuX)) := pfo e18 Tryz.func18 (by kernel_rfl) (w1_ok (q18 fuX))
noncomputable def s19 (fu : Nat) (cf : CF) (a0 : V) (h : H) (n : Id) (k : KV) : R :=
 jp (fun (s3 : VT [2, 3]) h n =>
 pc s3 fun v6 s7 =>
 pc s7 fun v8 s9 =>
 k (.tp [v6, v8]) h n) fun kk1 =>
 jp (lpC [0, 4] (fun lo5 s4 h n =>
 pc s4 fun v10 s11 =>
 pc s11 fun v12 s13 =>
 evLen tbx 28 v10 fun v14 =>
 evBin2 tbx .eql 3 v14 (.i .i64 0) fun v15 =>
 brB v15 (
 evNc' v12 fun v16 =>
 evFa tbx 81 2 v16 fun v17 =>
 evLoad tbx 79 v17 h fun v18 =>
 cf 36 [v18, (.fn 37 [])] h n fun v19 h n =>
 k (.tp [v12, (.i .i64 0)]) h n) (
 evIa tbx 28 v10 (.i .i64 0) fun v20 =>
 evFa tbx 37 0 v20 fun v21 =>
 evLoad tbx 24 v21 h fun v22 =>
 evAlloc tbx 24 h n fun v23 h n =>
 evStore tbx 24 v23 v22 h n fun _ h n =>
 evLoad tbx 24 v23 h fun v24 =>
 cf 38 [v24] h n fun v25 h n =>
 evUn .not v25 fun v26 =>
 brB v26 (
 k (.tp [.np, (.i .i64 1)]) h n) (
 evNc' v12 fun v27 =>
 evFa tbx 81 0 v27 fun v28 =>
 evLoad tbx 77 v28 h fun v29 =>
 evLoad tbx 24 v23 h fun v30 =>
 evLook tbx mtab 77 v29 v30 true h fun v31 =>
 evExt 0 v31 fun v32 =>
 evExt 1 v31 fun v33 =>
 evLoad tbx 77 v28 h fun w101 => cond (eqV 6 w101 v29) (
 evLoad tbx 24 v23 h fun w100 => cond (eqV 6 w100 v30) (
 evLook tbx mtab 77 v29 v30 true h fun w99 => cond (eqV 6 w99 v31) (
 brB v33 (
 k (.tp [.np, (.i .i64 9)]) h n) (
 evFa tbx 24 0 v23 fun v34 =>
 evLoad tbx 9 v34 h fun v35 =>
 evFa tbx 24 1 v23 fun v36 =>
 evLoad tbx 9 v36 h fun v37 =>
 evBuild tbx 87 [(0, v35), (1, v37)] fun v38 =>
 evAlloc tbx 87 h n fun v39 h n =>
 evStore tbx 87 v39 v38 h n fun _ h n =>
 evNc' v12 fun v40 =>
 evFa tbx 81 0 v40 fun v41 =>
 evLoad tbx 77 v41 h fun v42 =>
 evLoad tbx 24 v23 h fun v43 =>
 evNc' v12 fun v44 =>
 evFa tbx 81 1 v44 fun v45 =>
 evLoad tbx 78 v45 h fun v46 =>
 evLoad tbx 87 v39 h fun v47 =>
 evIa tbx 28 v10 (.i .i64 0) fun v48 =>
 evFa tbx 37 1 v48 fun v49 =>
 evLoad tbx 9 v49 h fun v50 =>
 evNc' v12 fun v51 =>
 evFa tbx 81 1 v51 fun v52 =>
 evLoad tbx 78 v52 h fun v53 =>
 evLoad tbx 87 v39 h fun v54 =>
 evLook tbx mtab 78 v53 v54 false h fun v55 =>
 evFa tbx 24 2 v23 fun v56 =>
 evLoad tbx 9 v56 h fun v57 =>
 alB n fun n' => sliA tbx 71 1 [(0, v57)] fun x mk => 
 (fun (v58 : V) h n =>
 evNc' v12 fun v59 =>
 evFa tbx 81 2 v59 fun v60 =>
 evLoad tbx 79 v60 h fun v61 =>
 evLoad tbx 24 v23 h fun v62 =>
 alB n fun n' => sliA tbx 79 1 [(0, v62)] fun x mk => 
 (fun (v63 : V) h n =>
 evLoad tbx 77 v41 h fun w98 => cond (eqV 6 w98 v42) (
 evLoad tbx 24 v23 h fun w97 => cond (eqV 6 w97 v43) (
 evLoad tbx 78 v45 h fun w96 => cond (eqV 6 w96 v46) (
 evLoad tbx 87 v39 h fun w95 => cond (eqV 6 w95 v47) (
 evLoad tbx 9 v49 h fun w94 => cond (eqV 6 w94 v50) (
 evLoad tbx 78 v52 h fun w93 => cond (eqV 6 w93 v53) (
 evLoad tbx 87 v39 h fun w92 => cond (eqV 6 w92 v54) (
 evLook tbx mtab 78 v53 v54 false h fun w91 => cond (eqV 6 w91 v55) (
 evLoad tbx 9 v56 h fun w90 => cond (eqV 6 w90 v57) (
 ckO (vId v58) h fun id x' => sliA tbx 71 1 [(0, v57)] fun x mk => cond (eqO x' x) (cond (eqV 6 (mk id) v58) (
 evLoad tbx 79 v60 h fun w89 => cond (eqV 6 w89 v61) (
 evLoad tbx 24 v23 h fun w88 => cond (eqV 6 w88 v62) (
 ckO (vId v63) h fun id x' => sliA tbx 79 1 [(0, v62)] fun x mk => cond (eqO x' x) (cond (eqV 6 (mk id) v63) (
 evApp tbx 71 71 v55 v58 h n fun v64 h n =>
 evLoad tbx 77 v41 h fun w87 => cond (eqV 6 w87 v42) (
 evLoad tbx 24 v23 h fun w86 => cond (eqV 6 w86 v43) (
 evLoad tbx 78 v45 h fun w85 => cond (eqV 6 w85 v46) (
 evLoad tbx 87 v39 h fun w84 => cond (eqV 6 w84 v47) (
 evLoad tbx 9 v49 h fun w83 => cond (eqV 6 w83 v50) (
 evLoad tbx 79 v60 h fun w82 => cond (eqV 6 w82 v61) (
 evLoad tbx 24 v23 h fun w81 => cond (eqV 6 w81 v62) (
 ckO (vId v63) h fun id x' => sliA tbx 79 1 [(0, v62)] fun x mk => cond (eqO x' x) (cond (eqV 6 (mk id) v63) (
 evApp tbx 79 79 v61 v63 h n fun v65 h n =>
 evLoad tbx 77 v41 h fun w80 => cond (eqV 6 w80 v42) (
 evLoad tbx 24 v23 h fun w79 => cond (eqV 6 w79 v43) (
 evLoad tbx 78 v45 h fun w78 => cond (eqV 6 w78 v46) (
 evLoad tbx 87 v39 h fun w77 => cond (eqV 6 w77 v47) (
 evLoad tbx 9 v49 h fun w76 => cond (eqV 6 w76 v50) (
 evMapEnt tbx mtab 77 v42 v43 h n fun v66 h n =>
 evExt 1 v66 fun v67 =>
 evLoad tbx 87 v39 h fun w75 => cond (eqV 6 w75 v47) (
 evLoad tbx 9 v49 h fun w74 => cond (eqV 6 w74 v50) (
 evEntSt v42 v67 v50 h n fun _ h n =>
 evLoad tbx 87 v39 h fun w73 => cond (eqV 6 w73 v47) (
 evMapEnt tbx mtab 78 v46 v47 h n fun v68 h n =>
 evExt 1 v68 fun v69 =>
 evEntSt v46 v69 v64 h n fun _ h n =>
 evNc' v12 fun v70 =>
 evFa tbx 81 2 v70 fun v71 =>
 evStore tbx 79 v71 v65 h n fun _ h n =>
 evSlc tbx 28 v10 (some (.i .i64 1)) none fun v72 =>
 lo5 (v72, v12, ()) h n) none) none) none) none) none) none) none) none) none) none) none) none) none) none) none) none) none) none) none) none) none) none) none) none) none) none) none) none) none) none) none) none) (mk n) (hset x n h) n') (mk n) (hset x n h) n')) none) none) none))) fu) fun lo2 =>
 evLen tbx 28 a0 fun v102 =>
 evBin2 tbx .gtr 3 v102 (.i .i64 300) fun v103 =>
 brB v103 (
 k (.tp [.np, (.i .i64 3)]) h n) (
 evMkMap h n fun v104 h n =>
 evMkMap h n fun v105 h n =>
 evBuild tbx 81 [(0, v104), (1, v105)] fun v106 =>
 evBox v106 h n fun v107 h n =>
 evLen tbx 28 a0 fun v108 =>
 evBin2 tbx .eql 3 v108 (.i .i64 0) fun v109 =>
 brB v109 (
 evNc' v107 fun v110 =>
 evFa tbx 81 2 v110 fun v111 =>
 evLoad tbx 79 v111 h fun v112 =>
 cf 36 [v112, (.fn 37 [])] h n fun v113 h n =>
 k (.tp [v107, (.i .i64 0)]) h n) (
 evIa tbx 28 a0 (.i .i64 0) fun v114 =>
 evFa tbx 37 0 v114 fun v115 =>
 evLoad tbx 24 v115 h fun v116 =>
 evAlloc tbx 24 h n fun v117 h n =>
 evStore tbx 24 v117 v116 h n fun _ h n =>
 evLoad tbx 24 v117 h fun v118 =>
 cf 38 [v118] h n fun v119 h n =>
 evUn .not v119 fun v120 =>
 brB v120 (
 k (.tp [.np, (.i .i64 1)]) h n) (
 evNc' v107 fun v121 =>
 evFa tbx 81 0 v121 fun v122 =>
 evLoad tbx 77 v122 h fun v123 =>
 evLoad tbx 24 v117 h fun v124 =>
 evLook tbx mtab 77 v123 v124 true h fun v125 =>
 evExt 0 v125 fun v126 =>
 evExt 1 v125 fun v127 =>
 evLoad tbx 77 v122 h fun w195 => cond (eqV 6 w195 v123) (
 evLoad tbx 24 v117 h fun w194 => cond (eqV 6 w194 v124) (
 evLook tbx mtab 77 v123 v124 true h fun w193 => cond (eqV 6 w193 v125) (
 brB v127 (
 k (.tp [.np, (.i .i64 9)]) h n) (
 evFa tbx 24 0 v117 fun v128 =>
 evLoad tbx 9 v128 h fun v129 =>
 evFa tbx 24 1 v117 fun v130 =>
 evLoad tbx 9 v130 h fun v131 =>
 evBuild tbx 87 [(0, v129), (1, v131)] fun v132 =>
 evAlloc tbx 87 h n fun v133 h n =>
 evStore tbx 87 v133 v132 h n fun _ h n =>
 evNc' v107 fun v134 =>
 evFa tbx 81 0 v134 fun v135 =>
 evLoad tbx 77 v135 h fun v136 =>
 evLoad tbx 24 v117 h fun v137 =>
 evNc' v107 fun v138 =>
 evFa tbx 81 1 v138 fun v139 =>
 evLoad tbx 78 v139 h fun v140 =>
 evLoad tbx 87 v133 h fun v141 =>
 evIa tbx 28 a0 (.i .i64 0) fun v142 =>
 evFa tbx 37 1 v142 fun v143 =>
 evLoad tbx 9 v143 h fun v144 =>
 evNc' v107 fun v145 =>
 evFa tbx 81 1 v145 fun v146 =>
 evLoad tbx 78 v146 h fun v147 =>
 evLoad tbx 87 v133 h fun v148 =>
 evLook tbx mtab 78 v147 v148 false h fun v149 =>
 evFa tbx 24 2 v117 fun v150 =>
 evLoad tbx 9 v150 h fun v151 =>
 alB n fun n' => sliA tbx 71 1 [(0, v151)] fun x mk => 
 (fun (v152 : V) h n =>
 evNc' v107 fun v153 =>
 evFa tbx 81 2 v153 fun v154 =>
 evLoad tbx 79 v154 h fun v155 =>
 evLoad tbx 24 v117 h fun v156 =>
 alB n fun n' => sliA tbx 79 1 [(0, v156)] fun x mk => 
 (fun (v157 : V) h n =>
 evLoad tbx 77 v135 h fun w192 => cond (eqV 6 w192 v136) (
 evLoad tbx 24 v117 h fun w191 => cond (eqV 6 w191 v137) (
 evLoad tbx 78 v139 h fun w190 => cond (eqV 6 w190 v140) (
 evLoad tbx 87 v133 h fun w189 => cond (eqV 6 w189 v141) (
 evLoad tbx 9 v143 h fun w188 => cond (eqV 6 w188 v144) (
 evLoad tbx 78 v146 h fun w187 => cond (eqV 6 w187 v147) (
 evLoad tbx 87 v133 h fun w186 => cond (eqV 6 w186 v148) (
 evLook tbx mtab 78 v147 v148 false h fun w185 => cond (eqV 6 w185 v149) (
 evLoad tbx 9 v150 h fun w184 => cond (eqV 6 w184 v151) (
 ckO (vId v152) h fun id x' => sliA tbx 71 1 [(0, v151)] fun x mk => cond (eqO x' x) (cond (eqV 6 (mk id) v152) (
 evLoad tbx 79 v154 h fun w183 => cond (eqV 6 w183 v155) (
 evLoad tbx 24 v117 h fun w182 => cond (eqV 6 w182 v156) (
 ckO (vId v157) h fun id x' => sliA tbx 79 1 [(0, v156)] fun x mk => cond (eqO x' x) (cond (eqV 6 (mk id) v157) (
 evApp tbx 71 71 v149 v152 h n fun v158 h n =>
 evLoad tbx 77 v135 h fun w181 => cond (eqV 6 w181 v136) (
 evLoad tbx 24 v117 h fun w180 => cond (eqV 6 w180 v137) (
 evLoad tbx 78 v139 h fun w179 => cond (eqV 6 w179 v140) (
 evLoad tbx 87 v133 h fun w178 => cond (eqV 6 w178 v141) (
 evLoad tbx 9 v143 h fun w177 => cond (eqV 6 w177 v144) (
 evLoad tbx 79 v154 h fun w176 => cond (eqV 6 w176 v155) (
 evLoad tbx 24 v117 h fun w175 => cond (eqV 6 w175 v156) (
 ckO (vId v157) h fun id x' => sliA tbx 79 1 [(0, v156)] fun x mk => cond (eqO x' x) (cond (eqV 6 (mk id) v157) (
 evApp tbx 79 79 v155 v157 h n fun v159 h n =>
 evLoad tbx 77 v135 h fun w174 => cond (eqV 6 w174 v136) (
 evLoad tbx 24 v117 h fun w173 => cond (eqV 6 w173 v137) (
 evLoad tbx 78 v139 h fun w172 => cond (eqV 6 w172 v140) (
 evLoad tbx 87 v133 h fun w171 => cond (eqV 6 w171 v141) (
 evLoad tbx 9 v143 h fun w170 => cond (eqV 6 w170 v144) (
 evMapEnt tbx mtab 77 v136 v137 h n fun v160 h n =>
 evExt 1 v160 fun v161 =>
 evLoad tbx 87 v133 h fun w169 => cond (eqV 6 w169 v141) (
 evLoad tbx 9 v143 h fun w168 => cond (eqV 6 w168 v144) (
 evEntSt v136 v161 v144 h n fun _ h n =>
 evLoad tbx 87 v133 h fun w167 => cond (eqV 6 w167 v141) (
 evMapEnt tbx mtab 78 v140 v141 h n fun v162 h n =>
 evExt 1 v162 fun v163 =>
 evEntSt v140 v163 v158 h n fun _ h n =>
 evNc' v107 fun v164 =>
 evFa tbx 81 2 v164 fun v165 =>
 evStore tbx 79 v165 v159 h n fun _ h n =>
 evSlc tbx 28 a0 (some (.i .i64 1)) none fun v166 =>
 lo2 (v166, v107, ()) h n) none) none) none) none) none) none) none) none) none) none) none) none) none) none) none) none) none) none) none) none) none) none) none) none) none) none) none) none) none) none) none) none) (mk n) (hset x n h) n') (mk n) (hset x n h) n')) none) none) none)))
noncomputable def e19 : FE := ⟨Tryz.f19, bd Tryz.f19, [0], [2, 3], (.q .z (.g 0 [0, 4] [2, 3] (.q (.q .z (.c (.q .z .z) .z)) (.q .z (.q .z (.q (.q .z (.c (.q .z (.q .z .z)) .z)) (.q .z (.q (.q .z (.c (.q .z .z) .z)) (.q (.q .z (.q .z (.c (.q .z .z) .z))) (.q .z (.q .z (.q .z .z)))))))))) (.q .z (.q (.q .z (.c (.q .z (.q .z .z)) .z)) (.q .z (.q (.q .z (.c (.q .z .z) .z)) (.q (.q .z (.q .z (.c (.q .z .z) .z))) (.q .z (.q .z (.q .z .z))))))))))⟩
theorem q19 (fu : Nat) (cf : CF) (a0 : V) (h : H) (n : Id) (k : KV) : evF fu cf e19 [a0] h n k = s19 fu cf a0 h n k := by kernel_rfl
theorem p19 : PfOk Tryz.prog tbx mtab 19 (w1 (s19 fuX)) := pfo e19 Tryz.func19 (by kernel_rfl) (w1_ok (q19 fuX))
noncomputable def s20 (fu : Nat) (cf : CF) (a0 a1 : V) (h : H) (n : Id) (k : KV) : R :=
 evBox a1 h n fun v1 h n =>
 jp (fun (s4 : VT [4, 5]) h n =>
 pc s4 fun v7 s8 =>
 pc s8 fun v9 s10 =>
 k (.tp [v7, v9]) h n) fun kk2 =>
 jp (lpC [0, 3, 6, 7] (fun lo6 s5 h n =>
 pc s5 fun v11 s12 =>
 pc s12 fun v13 s14 =>
 pc s14 fun v15 s16 =>
 pc s16 fun v17 s18 =>
 jp (fun (s19 : VT [0, 3, 6, 7]) h n =>
 pc s19 fun v21 s22 =>
 pc s22 fun v23 s24 =>
 pc s24 fun v25 s26 =>
 pc s26 fun v27 s28 =>
 evLoad tbx 24 v23 h fun v29 =>
 cf 22 [v21, v29] h n fun v30 h n =>
 evExt 0 v30 fun v31 =>
 evExt 1 v30 fun v32 =>
 evAlloc tbx 32 h n fun v33 h n =>
 evStore tbx 32 v33 v31 h n fun _ h n =>
 evBin2 tbx .neq 33 v32 (.i .i64 0) fun v34 =>
 brB v34 (
 k (.tp [.ns, v32]) h n) (
 evLoad tbx 32 v33 h fun v35 =>
 alB n fun n' => sliA tbx 41 1 [(0, v35)] fun x mk => 
 (fun (v36 : V) h n =>
 evLoad tbx 24 v23 h fun v37 =>
 alB n fun n' => sliA tbx 79 1 [(0, v37)] fun x mk => 
 (fun (v38 : V) h n =>
 evFa tbx 32 0 v33 fun v39 =>
 evLoad tbx 24 v39 h fun v40 =>
 evLoad tbx 32 v33 h fun w51 => cond (eqV 6 w51 v35) (
 ckO (vId v36) h fun id x' => sliA tbx 41 1 [(0, v35)] fun x mk => cond (eqO x' x) (cond (eqV 6 (mk id) v36) (
 evLoad tbx 24 v23 h fun w50 => cond (eqV 6 w50 v37) (
 ckO (vId v38) h fun id x' => sliA tbx 79 1 [(0, v37)] fun x mk => cond (eqO x' x) (cond (eqV 6 (mk id) v38) (
 evLoad tbx 24 v39 h fun w49 => cond (eqV 6 w49 v40) (
 evApp tbx 41 41 v25 v36 h n fun v41 h n =>
 evLoad tbx 24 v23 h fun w48 => cond (eqV 6 w48 v37) (
 ckO (vId v38) h fun id x' => sliA tbx 79 1 [(0, v37)] fun x mk => cond (eqO x' x) (cond (eqV 6 (mk id) v38) (
 evLoad tbx 24 v39 h fun w47 => cond (eqV 6 w47 v40) (
 evApp tbx 79 79 v27 v38 h n fun v42 h n =>
 evLoad tbx 24 v39 h fun w46 => cond (eqV 6 w46 v40) (
 evStore tbx 24 v23 v40 h n fun _ h n =>
 evLoad tbx 24 v23 h fun v43 =>
 evBuild tbx 24 [] fun v44 =>
 evBin2 tbx .neq 24 v43 v44 fun v45 =>
 brB v45 (
 lo6 (v21, v23, v41, v42, ()) h n) (
 k (.tp [v41, (.i .i64 0)]) h n)) none) none) none) none) none) none) none) none) none) none) none) none) (mk n) (hset x n h) n') (mk n) (hset x n h) n')) fun kk20 =>
 evLoad tbx 24 v13 h fun v52 =>
 cf 39 [v17, v52] h n fun v53 h n =>
 brB v53 (
 k (.tp [.ns, (.i .i64 16)]) h n) (
 evLen tbx 41 v15 fun v54 =>
 evBin2 tbx .geq 3 v54 (.i .i64 10) fun v55 =>
 brB v55 (
 k (.tp [.ns, (.i .i64 7)]) h n) (
 evLoad tbx 24 v13 h fun v56 =>
 cf 38 [v56] h n fun v57 h n =>
 evUn .not v57 fun v58 =>
 brB v58 (
 k (.tp [.ns, (.i .i64 10)]) h n) (
 kk20 (v11, v13, v15, v17, ()) h n)))) fu) fun lo3 =>
 jp (fun (s59 : VT [0, 3, 6, 7]) h n =>
 pc s59 fun v61 s62 =>
 pc s62 fun v63 s64 =>
 pc s64 fun v65 s66 =>
 pc s66 fun v67 s68 =>
 evLoad tbx 24 v63 h fun v69 =>
 cf 22 [v61, v69] h n fun v70 h n =>
 evExt 0 v70 fun v71 =>
 evExt 1 v70 fun v72 =>
 evAlloc tbx 32 h n fun v73 h n =>
 evStore tbx 32 v73 v71 h n fun _ h n =>
 evBin2 tbx .neq 33 v72 (.i .i64 0) fun v74 =>
 brB v74 (
 k (.tp [.ns, v72]) h n) (
 evLoad tbx 32 v73 h fun v75 =>
 alB n fun n' => sliA tbx 41 1 [(0, v75)] fun x mk => 
 (fun (v76 : V) h n =>
 evLoad tbx 24 v63 h fun v77 =>
 alB n fun n' => sliA tbx 79 1 [(0, v77)] fun x mk => 
 (fun (v78 : V) h n =>
 evFa tbx 32 0 v73 fun v79 =>
 evLoad tbx 24 v79 h fun v80 =>
 evLoad tbx 32 v73 h fun w91 => cond (eqV 6 w91 v75) (
 ckO (vId v76) h fun id x' => sliA tbx 41 1 [(0, v75)] fun x mk => cond (eqO x' x) (cond (eqV 6 (mk id) v76) (
 evLoad tbx 24 v63 h fun w90 => cond (eqV 6 w90 v77) (
 ckO (vId v78) h fun id x' => sliA tbx 79 1 [(0, v77)] fun x mk => cond (eqO x' x) (cond (eqV 6 (mk id) v78) (
 evLoad tbx 24 v79 h fun w89 => cond (eqV 6 w89 v80) (
 evApp tbx 41 41 v65 v76 h n fun v81 h n =>
 evLoad tbx 24 v63 h fun w88 => cond (eqV 6 w88 v77) (
 ckO (vId v78) h fun id x' => sliA tbx 79 1 [(0, v77)] fun x mk => cond (eqO x' x) (cond (eqV 6 (mk id) v78) (
 evLoad tbx 24 v79 h fun w87 => cond (eqV 6 w87 v80) (
 evApp tbx 79 79 v67 v78 h n fun v82 h n =>
 evLoad tbx 24 v79 h fun w86 => cond (eqV 6 w86 v80) (
 evStore tbx 24 v63 v80 h n fun _ h n =>
 evLoad tbx 24 v63 h fun v83 =>
 evBuild tbx 24 [] fun v84 =>
 evBin2 tbx .neq 24 v83 v84 fun v85 =>
 brB v85 (
 lo3 (v61, v63, v81, v82, ()) h n) (
 k (.tp [v81, (.i .i64 0)]) h n)) none) none) none) none) none) none) none) none) none) none) none) none) (mk n) (hset x n h) n') (mk n) (hset x n h) n')) fun kk60 =>
 evLoad tbx 24 v1 h fun v92 =>
 cf 39 [.ns, v92] h n fun v93 h n =>
 brB v93 (
 k (.tp [.ns, (.i .i64 16)]) h n) (
 evLen tbx 41 .ns fun v94 =>
 evBin2 tbx .geq 3 v94 (.i .i64 10) fun v95 =>
 brB v95 (
 k (.tp [.ns, (.i .i64 7)]) h n) (
 evLoad tbx 24 v1 h fun v96 =>
 cf 38 [v96] h n fun v97 h n =>
 evUn .not v97 fun v98 =>
 brB v98 (
 k (.tp [.ns, (.i .i64 10)]) h n) (
 kk60 (a0, v1, .ns, .ns, ()) h n)))
noncomputable def e20 : FE := ⟨Tryz.f20, bd Tryz.f20, [0, 1], [4, 5], (.q .z (.g 0 [0, 3, 6, 7] [4, 5] (.q .z (.q .z (.q .z (.q (.b [0, 3, 6, 7] (.q .z (.c (.q .z .z) (.q .z (.c (.q .z .z) (.q .z (.c (.q .z .z) .z))))))) (.q .z (.q (.q .z (.c (.q .z .z) .z)) (.q .z (.q (.q .z (.c .z .z)) (.q .z .z))))))))) (.q .z (.q (.b [0, 3, 6, 7] (.q .z (.c (.q .z .z) (.q .z (.c (.q .z .z) (.q .z (.c (.q .z .z) .z))))))) (.q .z (.q (.q .z (.c (.q .z .z) .z)) (.q .z (.q (.q .z (.c .z .z)) (.q .z .z)))))))))⟩
theorem q20 (fu : Nat) (cf : CF) (a0 a1 : V) (h : H) (n : Id) (k : KV) : evF fu cf e20 [a0, a1] h n k = s20 fu cf a0 a1 h n k := by kernel_rfl
theorem p20 : PfOk Tryz.prog tbx mtab 20 (w2 (s20 fuX)) := pfo e20 Tryz.func20 (by kernel_rfl) (w2_ok (q20 fuX))
noncomputable def s22 (fu : Nat) (cf : CF) (a0 a1 : V) (h : H) (n : Id) (k : KV) : R :=
 evBox a1 h n fun v1 h n =>
 evAlloc tbx 32 h n fun v2 h n =>
 evLoad tbx 24 v1 h fun v3 =>
 cf 40 [a0, v3] h n fun v4 h n =>
 evExt 0 v4 fun v5 =>
 evExt 1 v4 fun v6 =>
 evUn .not v6 fun v7 =>
 brB v7 (
 evBuild tbx 32 [] fun v8 =>
 evStore tbx 32 v2 v8 h n fun _ h n =>
 evLoad tbx 32 v2 h fun v9 =>
 k (.tp [v9, (.i .i64 14)]) h n) (
 cf 41 [v5] h n fun v10 h n =>
 evExt 0 v10 fun v11 =>
 evExt 1 v10 fun v12 =>
 evAlloc tbx 32 h n fun v13 h n =>
 evStore tbx 32 v13 v11 h n fun _ h n =>
 jp (fun (s14 : VT [4, 8]) h n =>
 pc s14 fun v16 s17 =>
 pc s17 fun v18 s19 =>
 evLoad tbx 32 v18 h fun v20 =>
 evStore tbx 32 v16 v20 h n fun _ h n =>
 evLoad tbx 32 v16 h fun v21 =>
 k (.tp [v21, (.i .i64 0)]) h n) fun kk15 =>
 evBin2 tbx .neq 33 v12 (.i .i64 0) fun v22 =>
 brB v22 (
 evBuild tbx 32 [] fun v23 =>
 evStore tbx 32 v2 v23 h n fun _ h n =>
 evLoad tbx 32 v2 h fun v24 =>
 k (.tp [v24, v12]) h n) (
 evFa tbx 32 2 v13 fun v25 =>
 evLoad tbx 9 v25 h fun v26 =>
 evFa tbx 24 1 v1 fun v27 =>
 evLoad tbx 9 v27 h fun v28 =>
 evBin2 tbx .neq 9 v26 v28 fun v29 =>
 jp (fun (v30 : V) h n =>
 jp (fun (v32 : V) h n =>
 jp (fun (v34 : V) h n =>
 jp (fun (v36 : V) h n =>
 jp (fun (v38 : V) h n =>
 jp (fun (v40 : V) h n =>
 jp (fun (v42 : V) h n =>
 evLoad tbx 9 v25 h fun w85 => cond (eqV 6 w85 v26) (
 evLoad tbx 9 v27 h fun w84 => cond (eqV 6 w84 v28) (
 thenR (wsB (wV v29 false) (evLoad tbx 9 v30 h fun w44 => cond (eqV 6 w44 v32) (okR) none) (cond (eqV 2 v32 (.tp [])) okR none)) (
 thenR (wsB (wV v29 false) (evLoad tbx 9 v36 h fun w45 => cond (eqV 6 w45 v38) (okR) none) (cond (eqV 2 v38 (.tp [])) okR none)) (
 thenR (wsB (wV v29 false) (evLoad tbx 9 v40 h fun w46 => cond (eqV 6 w46 v42) (okR) none) (cond (eqV 2 v42 (.tp [])) okR none)) (
 jp (fun (v47 : V) h n =>
 thenR (wsB (wV v29 false) (evLoad tbx 9 v40 h fun w49 => cond (eqV 6 w49 v42) (okR) none) (cond (eqV 2 v42 (.tp [])) okR none)) (
 jp (fun (v50 : V) h n =>
 jp (fun (v52 : V) h n =>
 evPick v29 (.b true) v52 fun v54 =>
 jp (fun (v55 : V) h n =>
 jp (fun (v57 : V) h n =>
 jp (fun (v59 : V) h n =>
 jp (fun (v61 : V) h n =>
 jp (fun (v63 : V) h n =>
 jp (fun (v65 : V) h n =>
 jp (fun (v67 : V) h n =>
 thenR (wsB (wV v29 false) (evLoad tbx 9 v40 h fun w69 => cond (eqV 6 w69 v42) (okR) none) (cond (eqV 2 v42 (.tp [])) okR none)) (
 thenR (wsB (wV v54 false) (evLoad tbx 9 v55 h fun w70 => cond (eqV 6 w70 v57) (okR) none) (cond (eqV 2 v57 (.tp [])) okR none)) (
 thenR (wsB (wV v54 false) (evLoad tbx 9 v61 h fun w71 => cond (eqV 6 w71 v63) (okR) none) (cond (eqV 2 v63 (.tp [])) okR none)) (
 thenR (wsB (wV v54 false) (evLoad tbx 9 v65 h fun w72 => cond (eqV 6 w72 v67) (okR) none) (cond (eqV 2 v67 (.tp [])) okR none)) (
 jp (fun (v73 : V) h n =>
 thenR (wsB (wV v54 false) (evLoad tbx 9 v65 h fun w75 => cond (eqV 6 w75 v67) (okR) none) (cond (eqV 2 v67 (.tp [])) okR none)) (
 jp (fun (v76 : V) h n =>
 jp (fun (v78 : V) h n =>
 evPick v54 (.b true) v78 fun v80 =>
 thenR (wsB (wV v54 false) (evLoad tbx 9 v65 h fun w81 => cond (eqV 6 w81 v67) (okR) none) (cond (eqV 2 v67 (.tp [])) okR none)) (
 brB v80 (
 evBuild tbx 32 [] fun v82 =>
 evStore tbx 32 v2 v82 h n fun _ h n =>
 evLoad tbx 32 v2 h fun v83 =>
 k (.tp [v83, (.i .i64 15)]) h n) (
 kk15 (v2, v13, ()) h n))) fun kk79 =>
 wsB (wV v54 false) ((evBin2 tbx .neq 9 v76 v67 fun v => kk79 v h n)) (kk79 (.tp []) h n)) fun kk77 =>
 wsB (wV v54 false) ((cf 42 [v73] h n kk77)) (kk77 (.tp []) h n))) fun kk74 =>
 wsB (wV v54 false) ((evBuildSl tbx 71 2 [(0, v57), (1, v63)] h n kk74)) (kk74 (.tp []) h n)))))) fun kk68 =>
 wsB (wV v54 false) ((evLoad tbx 9 v65 h fun v => kk68 v h n)) (kk68 (.tp []) h n)) fun kk66 =>
 wsB (wV v54 false) ((evFa tbx 24 2 v1 fun v => kk66 v h n)) (kk66 (.tp []) h n)) fun kk64 =>
 wsB (wV v54 false) ((evLoad tbx 9 v61 h fun v => kk64 v h n)) (kk64 (.tp []) h n)) fun kk62 =>
 wsB (wV v54 false) ((evFa tbx 24 2 v59 fun v => kk62 v h n)) (kk62 (.tp []) h n)) fun kk60 =>
 wsB (wV v54 false) ((evFa tbx 32 0 v13 fun v => kk60 v h n)) (kk60 (.tp []) h n)) fun kk58 =>
 wsB (wV v54 false) ((evLoad tbx 9 v55 h fun v => kk58 v h n)) (kk58 (.tp []) h n)) fun kk56 =>
 wsB (wV v54 false) ((evFa tbx 32 3 v13 fun v => kk56 v h n)) (kk56 (.tp []) h n)) fun kk53 =>
 wsB (wV v29 false) ((evBin2 tbx .neq 9 v50 v42 fun v => kk53 v h n)) (kk53 (.tp []) h n)) fun kk51 =>
 wsB (wV v29 false) ((cf 42 [v47] h n kk51)) (kk51 (.tp []) h n))) fun kk48 =>
 wsB (wV v29 false) ((evBuildSl tbx 71 2 [(0, v32), (1, v38)] h n kk48)) (kk48 (.tp []) h n))))) none) none) fun kk43 =>
 wsB (wV v29 false) ((evLoad tbx 9 v40 h fun v => kk43 v h n)) (kk43 (.tp []) h n)) fun kk41 =>
 wsB (wV v29 false) ((evFa tbx 24 0 v1 fun v => kk41 v h n)) (kk41 (.tp []) h n)) fun kk39 =>
 wsB (wV v29 false) ((evLoad tbx 9 v36 h fun v => kk39 v h n)) (kk39 (.tp []) h n)) fun kk37 =>
 wsB (wV v29 false) ((evFa tbx 24 0 v34 fun v => kk37 v h n)) (kk37 (.tp []) h n)) fun kk35 =>
 wsB (wV v29 false) ((evFa tbx 32 0 v13 fun v => kk35 v h n)) (kk35 (.tp []) h n)) fun kk33 =>
 wsB (wV v29 false) ((evLoad tbx 9 v30 h fun v => kk33 v h n)) (kk33 (.tp []) h n)) fun kk31 =>
 wsB (wV v29 false) ((evFa tbx 32 1 v13 fun v => kk31 v h n)) (kk31 (.tp []) h n)))
noncomputable def e22 : FE := ⟨Tryz.f22, bd Tryz.f22, [0, 1], [4, 5], (.q .z (.q .z (.q (.q .z (.c (.q .z .z) .z)) (.q .z (.q (.b [4, 8] (.q .z (.c (.q .z .z) (.q .z (.c (.q .z .z) .z))))) (.q .z .z))))))⟩
theorem q22 (fu : Nat) (cf : CF) (a0 a1 : V) (h : H) (n : Id) (k : KV) : evF fu cf e22 [a0, a1] h n k = s22 fu cf a0 a1 h n k := by kernel_rfl
theorem p22 : PfOk Tryz.prog tbx mtab 22 (w2 (s22 fuX)) := pfo e22 Tryz.func22 (by kernel_rfl) (w2_ok (q22 fuX))
noncomputable def s27 (fu : Nat) (cf : CF) (a0 a1 a2 : V) (h : H) (n : Id) (k : KV) : R :=
 evAlloc tbx 37 h n fun v1 h n =>
 evBuild tbx 32 [(1, (.s 1 103)), (2, a0), (3, a1), (7, a2)] fun v2 =>
 cf 18 [v2] h n fun v3 h n =>
 evExt 0 v3 fun v4 =>
 evExt 1 v3 fun v5 =>
 evBuild tbx 24 [(0, (.s 1 103)), (1, a0), (2, a1)] fun v6 =>
 evBuild tbx 37 [(0, v6), (1, v4)] fun v7 =>
 evStore tbx 37 v1 v7 h n fun _ h n =>
 evLoad tbx 37 v1 h fun v8 =>
 k v8 h n
noncomputable def e27 : FE := ⟨Tryz.f27, bd Tryz.f27, [0, 1, 2], [6], (.q .z (.q .z (.q .z .z)))⟩
theorem q27 (fu : Nat) (cf : CF) (a0 a1 a2 : V) (h : H) (n : Id) (k : KV) : evF fu cf e27 [a0, a1, a2] h n k = s27 fu cf a0 a1 a2 h n k := by kernel_rfl
theorem p27 : PfOk Tryz.prog tbx mtab 27 (w3 (s27 fuX)) := pfo e27 Tryz.func27 (by kernel_rfl) (w3_ok (q27 fuX))
noncomputable def s28 (fu : Nat) (cf : CF) (a0 a1 : V) (h : H) (n : Id) (k : KV) : R :=
 evAlloc tbx 51 h n fun v1 h n =>
 evBuild tbx 51 [(0, (.s 1 103)), (1, a0), (2, a1)] fun v2 =>
 evStore tbx 51 v1 v2 h n fun _ h n =>
 evLoad tbx 51 v1 h fun v3 =>
 k v3 h n
noncomputable def e28 : FE := ⟨Tryz.f28, bd Tryz.f28, [0, 1], [4], (.q .z (.q .z .z))⟩
theorem q28 (fu : Nat) (cf : CF) (a0 a1 : V) (h : H) (n : Id) (k : KV) : evF fu cf e28 [a0, a1] h n k = s28 fu cf a0 a1 h n k := by kernel_rfl
theorem p28 : PfOk Tryz.prog tbx mtab 28 (w2 (s28 fuX)) := pfo e28 Tryz.func28 (by kernel_rfl) (w2_ok (q28 fuX))
noncomputable def s29 (fu : Nat) (cf : CF) (a0 a1 : V) (h : H) (n : Id) (k : KV) : R :=
 evBox a1 h n fun v1 h n =>
 evAlloc tbx 66 h n fun v2 h n =>
 jp (fun (s5 : VT [4, 5]) h n =>
 pc s5 fun v8 s9 =>
 pc s9 fun v10 s11 =>
 evLoad tbx 66 v8 h fun v12 =>
 k (.tp [v12, v10]) h n) fun kk3 =>
 jp (lpC [3, 4, 6, 12] (fun lo7 s6 h n =>
 pc s6 fun v13 s14 =>
 pc s14 fun v15 s16 =>
 pc s16 fun v17 s18 =>
 pc s18 fun v19 s20 =>
 evNc' v17 fun v21 =>
 evFa tbx 102 4 v21 fun v22 =>
 evLoad tbx 64 v22 h fun v23 =>
 evLen tbx 64 v23 fun v24 =>
 evBin2 tbx .eql 3 v19 v24 fun v25 =>
 brB v25 (
 evLoad tbx 24 v13 h fun v26 =>
 evNc' v17 fun v27 =>
 evFa tbx 102 4 v27 fun v28 =>
 evLoad tbx 64 v28 h fun v29 =>
 evBuild tbx 66 [(0, v26), (1, v29)] fun v30 =>
 evLoad tbx 24 v13 h fun w33 => cond (eqV 6 w33 v26) (
 evLoad tbx 64 v28 h fun w32 => cond (eqV 6 w32 v29) (
 evStore tbx 66 v15 v30 h n fun _ h n =>
 evLoad tbx 66 v15 h fun v31 =>
 k (.tp [v31, (.i .i64 0)]) h n) none) none) (
 jp (fun (s34 : VT [3, 4, 6, 12]) h n =>
 pc s34 fun v36 s37 =>
 pc s37 fun v38 s39 =>
 pc s39 fun v40 s41 =>
 pc s41 fun v42 s43 =>
 evBin2 tbx .add 3 v42 (.i .i64 1) fun v44 =>
 lo7 (v36, v38, v40, v44, ()) h n) fun kk35 =>
 evNc' v17 fun v45 =>
 evFa tbx 102 4 v45 fun v46 =>
 evLoad tbx 64 v46 h fun v47 =>
 evIa tbx 64 v47 v19 fun v48 =>
 evFa tbx 70 3 v48 fun v49 =>
 evLoad tbx 3 v49 h fun v50 =>
 evBin2 tbx .eql 3 v50 (.i .i64 1) fun v51 =>
 brB v51 (
 cf 48 [v17, v19] h n fun v52 h n =>
 evBin2 tbx .neq 33 v52 (.i .i64 0) fun v53 =>
 brB v53 (
 evBuild tbx 66 [] fun v54 =>
 evStore tbx 66 v15 v54 h n fun _ h n =>
 evLoad tbx 66 v15 h fun v55 =>
 k (.tp [v55, v52]) h n) (
 kk35 (v13, v15, v17, v19, ()) h n)) (
 kk35 (v13, v15, v17, v19, ()) h n))) fu) fun lo4 =>
 evFa tbx 24 0 v1 fun v56 =>
 evLoad tbx 9 v56 h fun v57 =>
 evFa tbx 24 1 v1 fun v58 =>
 evLoad tbx 9 v58 h fun v59 =>
 evBuild tbx 51 [(0, v57), (1, v59)] fun v60 =>
 alB n fun n' => (fun (x : O) (mk : Id → V) => 
 (fun (v61 : V) h n =>
 evLoad tbx 9 v56 h fun w170 => cond (eqV 6 w170 v57) (
 evLoad tbx 9 v58 h fun w169 => cond (eqV 6 w169 v59) (
 ckO (vId v61) h fun id x' => (fun (x : O) (mk : Id → V) => cond (eqO x' x) (cond (eqV 6 (mk id) v61) (
 cf 44 [a0] h n fun v62 h n =>
 evLoad tbx 9 v56 h fun w168 => cond (eqV 6 w168 v57) (
 evLoad tbx 9 v58 h fun w167 => cond (eqV 6 w167 v59) (
 ckO (vId v61) h fun id x' => (fun (x : O) (mk : Id → V) => cond (eqO x' x) (cond (eqV 6 (mk id) v61) (
 cf 46 [v60] h n fun v63 h n =>
 evBuild tbx 102 [(0, a0), (1, v62), (3, v63), (5, v61)] fun v64 =>
 alB n fun n' => newB v64 fun x mk => 
 (fun (v65 : V) h n =>
 ckO (vId v61) h fun id x' => (fun (x : O) (mk : Id → V) => cond (eqO x' x) (cond (eqV 6 (mk id) v61) (
 ckO (vId v65) h fun id x' => newB v64 fun x mk => cond (eqO x' x) (cond (eqV 6 (mk id) v65) (
 evNc' v65 fun v66 =>
 evFa tbx 102 1 v66 fun v67 =>
 evLoad tbx 94 v67 h fun v68 =>
 evLoad tbx 24 v1 h fun v69 =>
 alB n fun n' => newZ tbx 32 fun x mk => 
 (fun (v70 : V) h n =>
 evLoad tbx 94 v67 h fun w166 => cond (eqV 6 w166 v68) (
 evLoad tbx 24 v1 h fun w165 => cond (eqV 6 w165 v69) (
 ckO (vId v70) h fun id x' => newZ tbx 32 fun x mk => cond (eqO x' x) (cond (eqV 6 (mk id) v70) (
 cf 45 [v68, v69] h n fun v71 h n =>
 evExt 0 v71 fun v72 =>
 evExt 1 v71 fun v73 =>
 ckO (vId v70) h fun id x' => newZ tbx 32 fun x mk => cond (eqO x' x) (cond (eqV 6 (mk id) v70) (
 evStore tbx 32 v70 v72 h n fun _ h n =>
 evBin2 tbx .neq 33 v73 (.i .i64 0) fun v74 =>
 brB v74 (
 evBuild tbx 66 [] fun v75 =>
 evStore tbx 66 v2 v75 h n fun _ h n =>
 evLoad tbx 66 v2 h fun v76 =>
 k (.tp [v76, v73]) h n) (
 evFa tbx 32 6 v70 fun v77 =>
 evLoad tbx 30 v77 h fun v78 =>
 evNc' v65 fun v79 =>
 evFa tbx 102 2 v79 fun v80 =>
 evStore tbx 30 v80 v78 h n fun _ h n =>
 evFa tbx 32 7 v70 fun v81 =>
 evLoad tbx 30 v81 h fun v82 =>
 evLen tbx 30 v82 fun v83 =>
 jp (fun (s84 : VT [3, 4, 6]) h n =>
 pc s84 fun v86 s87 =>
 pc s87 fun v88 s89 =>
 pc s89 fun v90 s91 =>
 evNc' v90 fun v92 =>
 evFa tbx 102 4 v92 fun v93 =>
 evLoad tbx 64 v93 h fun v94 =>
 evLen tbx 64 v94 fun v95 =>
 evBin2 tbx .eql 3 (.i .i64 0) v95 fun v96 =>
 brB v96 (
 evLoad tbx 24 v86 h fun v97 =>
 evNc' v90 fun v98 =>
 evFa tbx 102 4 v98 fun v99 =>
 evLoad tbx 64 v99 h fun v100 =>
 evBuild tbx 66 [(0, v97), (1, v100)] fun v101 =>
 evLoad tbx 24 v86 h fun w104 => cond (eqV 6 w104 v97) (
 evLoad tbx 64 v99 h fun w103 => cond (eqV 6 w103 v100) (
 evStore tbx 66 v88 v101 h n fun _ h n =>
 evLoad tbx 66 v88 h fun v102 =>
 k (.tp [v102, (.i .i64 0)]) h n) none) none) (
 jp (fun (s105 : VT [3, 4, 6, 12]) h n =>
 pc s105 fun v107 s108 =>
 pc s108 fun v109 s110 =>
 pc s110 fun v111 s112 =>
 pc s112 fun v113 s114 =>
 evBin2 tbx .add 3 v113 (.i .i64 1) fun v115 =>
 lo4 (v107, v109, v111, v115, ()) h n) fun kk106 =>
 evNc' v90 fun v116 =>
 evFa tbx 102 4 v116 fun v117 =>
 evLoad tbx 64 v117 h fun v118 =>
 evIa tbx 64 v118 (.i .i64 0) fun v119 =>
 evFa tbx 70 3 v119 fun v120 =>
 evLoad tbx 3 v120 h fun v121 =>
 evBin2 tbx .eql 3 v121 (.i .i64 1) fun v122 =>
 brB v122 (
 cf 48 [v90, (.i .i64 0)] h n fun v123 h n =>
 evBin2 tbx .neq 33 v123 (.i .i64 0) fun v124 =>
 brB v124 (
 evBuild tbx 66 [] fun v125 =>
 evStore tbx 66 v88 v125 h n fun _ h n =>
 evLoad tbx 66 v88 h fun v126 =>
 k (.tp [v126, v123]) h n) (
 kk106 (v86, v88, v90, (.i .i64 0), ()) h n)) (
 kk106 (v86, v88, v90, (.i .i64 0), ()) h n))) fun kk85 =>
 lpC [3, 4, 6, 45, 46, 47] (fun lo128 s127 h n =>
 pc s127 fun v129 s130 =>
 pc s130 fun v131 s132 =>
 pc s132 fun v133 s134 =>
 pc s134 fun v135 s136 =>
 pc s136 fun v137 s138 =>
 pc s138 fun v139 s140 =>
 evBin2 tbx .lss 3 v139 v137 fun v141 =>
 brB v141 (
 jp (fun (s142 : VT [3, 4, 6, 45, 46, 47]) h n =>
 pc s142 fun v144 s145 =>
 pc s145 fun v146 s147 =>
 pc s147 fun v148 s149 =>
 pc s149 fun v150 s151 =>
 pc s151 fun v152 s153 =>
 pc s153 fun v154 s155 =>
 evBin2 tbx .add 3 v154 (.i .i64 1) fun v156 =>
 lo128 (v144, v146, v148, v150, v152, v156, ()) h n) fun kk143 =>
 evIa tbx 30 v135 v139 fun v157 =>
 evLoad tbx 51 v157 h fun v158 =>
 evAlloc tbx 51 h n fun v159 h n =>
 evStore tbx 51 v159 v158 h n fun _ h n =>
 evLoad tbx 51 v159 h fun v160 =>
 cf 47 [v133, v160, (.i .i64 (-1)), v139] h n fun v161 h n =>
 evBin2 tbx .neq 33 v161 (.i .i64 0) fun v162 =>
 brB v162 (
 evBuild tbx 66 [] fun v163 =>
 evStore tbx 66 v131 v163 h n fun _ h n =>
 evLoad tbx 66 v131 h fun v164 =>
 k (.tp [v164, v161]) h n) (
 kk143 (v129, v131, v133, v135, v137, v139, ()) h n)) (
 kk85 (v129, v131, v133, ()) h n)) fu (v1, v2, v65, v82, v83, (.i .i64 0), ()) h n)) none) none) none) none) none) none) (mk n) (hset x n h) n') none) none) none) none) (.mp []) fun n => .mp n) (mk n) (hset x n h) n') none) none) (.mp []) fun n => .mp n) none) none) none) none) (.mp []) fun n => .mp n) none) none) (mk n) (hset x n h) n') (.mp []) fun n => .mp n
noncomputable def e29 : FE := ⟨Tryz.f29, bd Tryz.f29, [0, 1], [4, 5], (.q .z (.g 0 [3, 4, 6, 12] [4, 5] (.q .z (.q .z (.q (.q .z (.c (.q .z .z) .z)) (.q .z (.q (.q .z (.b [3, 4, 6] (.l [3, 4, 6, 45, 46, 47] (.q .z (.q (.c .z .z) (.q (.b [3, 4, 6, 45, 46, 47] (.q .z (.q .z (.q .z (.c (.q .z .z) .z))))) .z)))))) (.q .z (.q .z (.q (.q .z (.c (.q .z .z) .z)) (.s [3, 4, 6, 12] (.q .z (.c (.q .z (.q .z (.c (.q .z .z) .z))) .z)) (.q .z .z)))))))))) (.q .z (.q (.q .z (.c (.q .z .z) .z)) (.s [3, 4, 6, 12] (.q .z (.c (.q .z (.q .z (.c (.q .z .z) .z))) .z)) (.q .z .z))))))⟩
theorem q29 (fu : Nat) (cf : CF) (a0 a1 : V) (h : H) (n : Id) (k : KV) : evF fu cf e29 [a0, a1] h n k = s29 fu cf a0 a1 h n k := by kernel_rfl
theorem p29 : PfOk Tryz.prog tbx mtab 29 (w2 (s29 fuX)) := pfo e29 Tryz.func29 (by kernel_rfl) (w2_ok (q29 fuX))
noncomputable def s30 (fu : Nat) (cf : CF) (h : H) (n : Id) (k : KV) : R :=
 cf 28 [(.s 1 98), (.s 1 49)] h n fun v1 h n =>
 evBuildSl tbx 30 1 [(0, v1)] h n fun v2 h n =>
 cf 27 [(.s 1 97), (.s 1 49), v2] h n fun v3 h n =>
 cf 27 [(.s 1 98), (.s 1 49), .ns] h n fun v4 h n =>
 evBuildSl tbx 28 2 [(0, v3), (1, v4)] h n fun v5 h n =>
 cf 19 [v5] h n fun v6 h n =>
 evExt 0 v6 fun v7 =>
 evExt 1 v6 fun v8 =>
 evBin2 tbx .neq 33 v8 (.i .i64 0) fun v9 =>
 brB v9 (
 k (.b false) h n) (
 evBuild tbx 24 [(0, (.s 1 103)), (1, (.s 1 97)), (2, (.s 1 49))] fun v10 =>
 cf 29 [v7, v10] h n fun v11 h n =>
 evExt 0 v11 fun v12 =>
 evExt 1 v11 fun v13 =>
 evAlloc tbx 66 h n fun v14 h n =>
 evStore tbx 66 v14 v12 h n fun _ h n =>
 evBin2 tbx .eql 33 v13 (.i .i64 0) fun v15 =>
 jp (fun (v16 : V) h n =>
 jp (fun (v18 : V) h n =>
 jp (fun (v20 : V) h n =>
 jp (fun (v22 : V) h n =>
 evPick v15 v22 (.b false) fun v24 =>
 jp (fun (v25 : V) h n =>
 jp (fun (v27 : V) h n =>
 jp (fun (v29 : V) h n =>
 jp (fun (v31 : V) h n =>
 jp (fun (v33 : V) h n =>
 jp (fun (v35 : V) h n =>
 evPick v24 v35 (.b false) fun v37 =>
 jp (fun (v38 : V) h n =>
 jp (fun (v40 : V) h n =>
 jp (fun (v42 : V) h n =>
 jp (fun (v44 : V) h n =>
 jp (fun (v46 : V) h n =>
 jp (fun (v48 : V) h n =>
 jp (fun (v50 : V) h n =>
 evPick v37 v50 (.b false) fun v52 =>
 k v52 h n) fun kk51 =>
 gdB v37 true ((evBin2 tbx .eql 9 v48 (.s 7 27988538522430565) fun v => kk51 v h n)) (kk51 (.tp []) h n)) fun kk49 =>
 gdB v37 true ((evLoad tbx 9 v46 h fun v => kk49 v h n)) (kk49 (.tp []) h n)) fun kk47 =>
 gdB v37 true ((evFa tbx 51 5 v44 fun v => kk47 v h n)) (kk47 (.tp []) h n)) fun kk45 =>
 gdB v37 true ((evFa tbx 70 2 v42 fun v => kk45 v h n)) (kk45 (.tp []) h n)) fun kk43 =>
 gdB v37 true ((evIa tbx 64 v40 (.i .i64 0) fun v => kk43 v h n)) (kk43 (.tp []) h n)) fun kk41 =>
 gdB v37 true ((evLoad tbx 64 v38 h fun v => kk41 v h n)) (kk41 (.tp []) h n)) fun kk39 =>
 gdB v37 true ((evFa tbx 66 1 v14 fun v => kk39 v h n)) (kk39 (.tp []) h n)) fun kk36 =>
 gdB v24 true ((evBin2 tbx .eql 3 v33 (.i .i64 1) fun v => kk36 v h n)) (kk36 (.tp []) h n)) fun kk34 =>
 gdB v24 true ((evLoad tbx 3 v31 h fun v => kk34 v h n)) (kk34 (.tp []) h n)) fun kk32 =>
 gdB v24 true ((evFa tbx 70 3 v29 fun v => kk32 v h n)) (kk32 (.tp []) h n)) fun kk30 =>
 gdB v24 true ((evIa tbx 64 v27 (.i .i64 0) fun v => kk30 v h n)) (kk30 (.tp []) h n)) fun kk28 =>
 gdB v24 true ((evLoad tbx 64 v25 h fun v => kk28 v h n)) (kk28 (.tp []) h n)) fun kk26 =>
 gdB v24 true ((evFa tbx 66 1 v14 fun v => kk26 v h n)) (kk26 (.tp []) h n)) fun kk23 =>
 gdB v15 true ((evBin2 tbx .eql 3 v20 (.i .i64 1) fun v => kk23 v h n)) (kk23 (.tp []) h n)) fun kk21 =>
 gdB v15 true ((evLen tbx 64 v18 fun v => kk21 v h n)) (kk21 (.tp []) h n)) fun kk19 =>
 gdB v15 true ((evLoad tbx 64 v16 h fun v => kk19 v h n)) (kk19 (.tp []) h n)) fun kk17 =>
 gdB v15 true ((evFa tbx 66 1 v14 fun v => kk17 v h n)) (kk17 (.tp []) h n))
noncomputable def e30 : FE := ⟨Tryz.f30, bd Tryz.f30, [], [0], (.q .z (.q .z (.q (.q .z (.c (.q .z .z) .z)) (.q .z (.q .z .z)))))⟩
theorem q30 (fu : Nat) (cf : CF) (h : H) (n : Id) (k : KV) : evF fu cf e30 [] h n k = s30 fu cf h n k := by kernel_rfl
theorem p30 : PfOk Tryz.prog tbx mtab 30 (w0 (s30 fuX)) := pfo e30 Tryz.func30 (by kernel_rfl) (w0_ok (q30 fuX))
noncomputable def s31 (fu : Nat) (cf : CF) (a0 : V) (h : H) (n : Id) (k : KV) : R :=
 evBox a0 h n fun v1 h n =>
 evFa tbx 32 0 v1 fun v2 =>
 evLoad tbx 24 v2 h fun v3 =>
 evAlloc tbx 24 h n fun v4 h n =>
 evStore tbx 24 v4 v3 h n fun _ h n =>
 evFa tbx 24 0 v4 fun v5 =>
 evLoad tbx 9 v5 h fun v6 =>
 evFa tbx 24 1 v4 fun v7 =>
 evLoad tbx 9 v7 h fun v8 =>
 evFa tbx 24 2 v4 fun v9 =>
 evLoad tbx 9 v9 h fun v10 =>
 evFa tbx 32 1 v1 fun v11 =>
 evLoad tbx 9 v11 h fun v12 =>
 evFa tbx 32 2 v1 fun v13 =>
 evLoad tbx 9 v13 h fun v14 =>
 evFa tbx 32 3 v1 fun v15 =>
 evLoad tbx 9 v15 h fun v16 =>
 evFa tbx 32 4 v1 fun v17 =>
 evLoad tbx 9 v17 h fun v18 =>
 evBuildSl tbx 71 7 [(0, v6), (1, v8), (2, v10), (3, v12), (4, v14), (5, v16), (6, v18)] h n fun v19 h n =>
 cf 49 [v19] h n fun v20 h n =>
 evUn .not v20 fun v21 =>
 jp (fun (v22 : V) h n =>
 jp (fun (v24 : V) h n =>
 jp (fun (v26 : V) h n =>
 evPick v21 (.b true) v26 fun v28 =>
 jp (fun (v29 : V) h n =>
 jp (fun (v31 : V) h n =>
 jp (fun (v33 : V) h n =>
 jp (fun (v35 : V) h n =>
 evPick v28 (.b true) v35 fun v37 =>
 brB v37 (
 k (.b false) h n) (
 evLoad tbx 24 v4 h fun v38 =>
 evBuild tbx 24 [] fun v39 =>
 evBin2 tbx .neq 24 v38 v39 fun v40 =>
 jp (fun (v41 : V) h n =>
 jp (fun (v43 : V) h n =>
 jp (fun (v45 : V) h n =>
 jp (fun (v47 : V) h n =>
 jp (fun (v49 : V) h n =>
 jp (fun (v51 : V) h n =>
 jp (fun (v53 : V) h n =>
 jp (fun (v55 : V) h n =>
 jp (fun (v57 : V) h n =>
 jp (fun (v59 : V) h n =>
 jp (fun (v61 : V) h n =>
 jp (fun (v63 : V) h n =>
 jp (fun (v65 : V) h n =>
 evPick v40 v65 (.b false) fun v67 =>
 brB v67 (
 k (.b false) h n) (
 jp (fun (s68 : VT [1]) h n =>
 pc s68 fun v70 s71 =>
 evFa tbx 32 6 v70 fun v72 =>
 evLoad tbx 30 v72 h fun v73 =>
 cf 52 [v73] h n fun v74 h n =>
 jp (fun (v75 : V) h n =>
 jp (fun (v77 : V) h n =>
 jp (fun (v79 : V) h n =>
 evPick v74 v79 (.b false) fun v81 =>
 k v81 h n) fun kk80 =>
 gdB v74 true ((cf 52 [v77] h n kk80)) (kk80 (.tp []) h n)) fun kk78 =>
 gdB v74 true ((evLoad tbx 30 v75 h fun v => kk78 v h n)) (kk78 (.tp []) h n)) fun kk76 =>
 gdB v74 true ((evFa tbx 32 7 v70 fun v => kk76 v h n)) (kk76 (.tp []) h n)) fun kk69 =>
 lpC [1, 4] (fun lo83 s82 h n =>
 pc s82 fun v84 s85 =>
 pc s85 fun v86 s87 =>
 evFa tbx 32 5 v84 fun v88 =>
 evLoad tbx 29 v88 h fun v89 =>
 evLen tbx 29 v89 fun v90 =>
 evBin2 tbx .lss 3 v86 v90 fun v91 =>
 brB v91 (
 jp (fun (s92 : VT [1, 4]) h n =>
 pc s92 fun v94 s95 =>
 pc s95 fun v96 s97 =>
 evBin2 tbx .add 3 v96 (.i .i64 1) fun v98 =>
 lo83 (v94, v98, ()) h n) fun kk93 =>
 evFa tbx 32 5 v84 fun v99 =>
 evLoad tbx 29 v99 h fun v100 =>
 evIa tbx 29 v100 v86 fun v101 =>
 evFa tbx 57 0 v101 fun v102 =>
 evLoad tbx 9 v102 h fun v103 =>
 cf 50 [v103] h n fun v104 h n =>
 evUn .not v104 fun v105 =>
 jp (fun (v106 : V) h n =>
 jp (fun (v108 : V) h n =>
 jp (fun (v110 : V) h n =>
 jp (fun (v112 : V) h n =>
 jp (fun (v114 : V) h n =>
 jp (fun (v116 : V) h n =>
 jp (fun (v118 : V) h n =>
 jp (fun (v120 : V) h n =>
 evPick v105 (.b true) v120 fun v122 =>
 brB v122 (
 k (.b false) h n) (
 jp (fun (s123 : VT [1, 4]) h n =>
 pc s123 fun v125 s126 =>
 pc s126 fun v127 s128 =>
 kk93 (v125, v127, ()) h n) fun kk124 =>
 lpC [1, 4, 5] (fun lo130 s129 h n =>
 pc s129 fun v131 s132 =>
 pc s132 fun v133 s134 =>
 pc s134 fun v135 s136 =>
 evBin2 tbx .lss 3 v135 v133 fun v137 =>
 brB v137 (
 jp (fun (s138 : VT [1, 4, 5]) h n =>
 pc s138 fun v140 s141 =>
 pc s141 fun v142 s143 =>
 pc s143 fun v144 s145 =>
 evBin2 tbx .add 3 v144 (.i .i64 1) fun v146 =>
 lo130 (v140, v142, v146, ()) h n) fun kk139 =>
 evFa tbx 32 5 v131 fun v147 =>
 evLoad tbx 29 v147 h fun v148 =>
 evIa tbx 29 v148 v135 fun v149 =>
 evFa tbx 57 0 v149 fun v150 =>
 evLoad tbx 9 v150 h fun v151 =>
 evFa tbx 32 5 v131 fun v152 =>
 evLoad tbx 29 v152 h fun v153 =>
 evIa tbx 29 v153 v133 fun v154 =>
 evFa tbx 57 0 v154 fun v155 =>
 evLoad tbx 9 v155 h fun v156 =>
 evBin2 tbx .eql 9 v151 v156 fun v157 =>
 evLoad tbx 29 v147 h fun w161 => cond (eqV 6 w161 v148) (
 evLoad tbx 9 v150 h fun w160 => cond (eqV 6 w160 v151) (
 evLoad tbx 29 v152 h fun w159 => cond (eqV 6 w159 v153) (
 evLoad tbx 9 v155 h fun w158 => cond (eqV 6 w158 v156) (
 brB v157 (
 k (.b false) h n) (
 kk139 (v131, v133, v135, ()) h n)) none) none) none) none) (
 kk124 (v131, v133, ()) h n)) fu (v84, v86, (.i .i64 0), ()) h n)) fun kk121 =>
 gdB v105 false ((evUn .not v118 fun v => kk121 v h n)) (kk121 (.tp []) h n)) fun kk119 =>
 gdB v105 false ((cf 51 [v116] h n kk119)) (kk119 (.tp []) h n)) fun kk117 =>
 gdB v105 false ((evLoad tbx 9 v114 h fun v => kk117 v h n)) (kk117 (.tp []) h n)) fun kk115 =>
 gdB v105 false ((evFa tbx 57 1 v112 fun v => kk115 v h n)) (kk115 (.tp []) h n)) fun kk113 =>
 gdB v105 false ((evIa tbx 29 v108 v110 fun v => kk113 v h n)) (kk113 (.tp []) h n)) fun kk111 =>
 gdB v105 false (kk111 v86 h n) (kk111 (.tp []) h n)) fun kk109 =>
 gdB v105 false ((evLoad tbx 29 v106 h fun v => kk109 v h n)) (kk109 (.tp []) h n)) fun kk107 =>
 gdB v105 false ((evFa tbx 32 5 v84 fun v => kk107 v h n)) (kk107 (.tp []) h n)) (
 kk69 (v84, ()) h n)) fu (v1, (.i .i64 0), ()) h n)) fun kk66 =>
 gdB v40 true ((evPick v57 (.b true) v63 fun v => kk66 v h n)) (kk66 (.tp []) h n)) fun kk64 =>
 gdB v57 false ((evBin2 tbx .eql 9 v61 (.s 0 0) fun v => kk64 v h n)) (kk64 (.tp []) h n)) fun kk62 =>
 gdB v57 false ((evLoad tbx 9 v59 h fun v => kk62 v h n)) (kk62 (.tp []) h n)) fun kk60 =>
 gdB v57 false ((evFa tbx 24 2 v4 fun v => kk60 v h n)) (kk60 (.tp []) h n)) fun kk58 =>
 gdB v40 true (kk58 v55 h n) (kk58 (.tp []) h n)) fun kk56 =>
 gdB v40 true ((evPick v47 (.b true) v53 fun v => kk56 v h n)) (kk56 (.tp []) h n)) fun kk54 =>
 gdB v47 false ((evBin2 tbx .eql 9 v51 (.s 0 0) fun v => kk54 v h n)) (kk54 (.tp []) h n)) fun kk52 =>
 gdB v47 false ((evLoad tbx 9 v49 h fun v => kk52 v h n)) (kk52 (.tp []) h n)) fun kk50 =>
 gdB v47 false ((evFa tbx 24 1 v4 fun v => kk50 v h n)) (kk50 (.tp []) h n)) fun kk48 =>
 gdB v40 true (kk48 v45 h n) (kk48 (.tp []) h n)) fun kk46 =>
 gdB v40 true ((evBin2 tbx .eql 9 v43 (.s 0 0) fun v => kk46 v h n)) (kk46 (.tp []) h n)) fun kk44 =>
 gdB v40 true ((evLoad tbx 9 v41 h fun v => kk44 v h n)) (kk44 (.tp []) h n)) fun kk42 =>
 gdB v40 true ((evFa tbx 24 0 v4 fun v => kk42 v h n)) (kk42 (.tp []) h n))) fun kk36 =>
 gdB v28 false ((evBin2 tbx .gtr 3 v33 (.i .i64 100) fun v => kk36 v h n)) (kk36 (.tp []) h n)) fun kk34 =>
 gdB v28 false ((evLen tbx 29 v31 fun v => kk34 v h n)) (kk34 (.tp []) h n)) fun kk32 =>
 gdB v28 false ((evLoad tbx 29 v29 h fun v => kk32 v h n)) (kk32 (.tp []) h n)) fun kk30 =>
 gdB v28 false ((evFa tbx 32 5 v1 fun v => kk30 v h n)) (kk30 (.tp []) h n)) fun kk27 =>
 gdB v21 false ((evBin2 tbx .eql 9 v24 (.s 0 0) fun v => kk27 v h n)) (kk27 (.tp []) h n)) fun kk25 =>
 gdB v21 false ((evLoad tbx 9 v22 h fun v => kk25 v h n)) (kk25 (.tp []) h n)) fun kk23 =>
 gdB v21 false ((evFa tbx 32 2 v1 fun v => kk23 v h n)) (kk23 (.tp []) h n)
noncomputable def e31 : FE := ⟨Tryz.f31, bd Tryz.f31, [0], [2], (.q .z (.q .z (.q (.q .z (.c (.q .z .z) .z)) (.q (.q .z (.c (.q .z .z) .z)) (.q (.q .z (.b [1] (.l [1, 4] (.q (.q .z (.c .z .z)) (.q (.b [1, 4] (.q (.q .z (.c (.q .z .z) .z)) (.q .z (.b [1, 4] (.l [1, 4, 5] (.q (.q .z (.c .z .z)) (.q (.b [1, 4, 5] (.q .z (.c (.q .z .z) .z))) .z))))))) .z))))) (.q .z .z))))))⟩
theorem q31 (fu : Nat) (cf : CF) (a0 : V) (h : H) (n : Id) (k : KV) : evF fu cf e31 [a0] h n k = s31 fu cf a0 h n k := by kernel_rfl
theorem p31 : PfOk Tryz.prog tbx mtab 31 (w1 (s31 fuX)) := pfo e31 Tryz.func31 (by kernel_rfl) (w1_ok (q31 fuX))
noncomputable def s32 (fu : Nat) (cf : CF) (a0 a1 : V) (h : H) (n : Id) (k : KV) : R :=
 evBin2 tbx .eql 9 a1 (.s 0 0) fun v1 =>
 brB v1 (
 k (.s 0 0) h n) (
 evBin2 tbx .add 9 (.s 1 60) a0 fun v2 =>
 evBin2 tbx .add 9 v2 (.s 1 62) fun v3 =>
 evBin2 tbx .add 9 v3 a1 fun v4 =>
 evBin2 tbx .add 9 v4 (.s 2 15407) fun v5 =>
 evBin2 tbx .add 9 v5 a0 fun v6 =>
 evBin2 tbx .add 9 v6 (.s 1 62) fun v7 =>
 k v7 h n)
noncomputable def e32 : FE := ⟨Tryz.f32, bd Tryz.f32, [0, 1], [4], (.q .z (.q (.q .z (.c (.q .z .z) .z)) (.q .z .z)))⟩
theorem q32 (fu : Nat) (cf : CF) (a0 a1 : V) (h : H) (n : Id) (k : KV) : evF fu cf e32 [a0, a1] h n k = s32 fu cf a0 a1 h n k := by kernel_rfl
theorem p32 : PfOk Tryz.prog tbx mtab 32 (w2 (s32 fuX)) := pfo e32 Tryz.func32 (by kernel_rfl) (w2_ok (q32 fuX))
noncomputable def s33 (fu : Nat) (cf : CF) (a0 a1 : V) (h : H) (n : Id) (k : KV) : R :=
 cf 34 [a1] h n fun v1 h n =>
 cf 32 [a0, v1] h n fun v2 h n =>
 k v2 h n
noncomputable def e33 : FE := ⟨Tryz.f33, bd Tryz.f33, [0, 1], [4], (.q .z (.q .z .z))⟩
theorem q33 (fu : Nat) (cf : CF) (a0 a1 : V) (h : H) (n : Id) (k : KV) : evF fu cf e33 [a0, a1] h n k = s33 fu cf a0 a1 h n k := by kernel_rfl
theorem p33 : PfOk Tryz.prog tbx mtab 33 (w2 (s33 fuX)) := pfo e33 Tryz.func33 (by kernel_rfl) (w2_ok (q33 fuX))
noncomputable def s34 (fu : Nat) (cf : CF) (a0 : V) (h : H) (n : Id) (k : KV) : R :=
 jp (fun (s1 : VT [3]) h n =>
 pc s1 fun v3 s4 =>
 evConv2 tbx mtab 73 9 v3 h n fun v5 h n =>
 k v5 h n) fun kk2 =>
 lpC [0, 3, 4] (fun lo7 s6 h n =>
 pc s6 fun v8 s9 =>
 pc s9 fun v10 s11 =>
 pc s11 fun v12 s13 =>
 evLen tbx 9 v8 fun v14 =>
 evBin2 tbx .lss 3 v12 v14 fun v15 =>
 brB v15 (
 jp (fun (s16 : VT [0, 3, 4]) h n =>
 pc s16 fun v18 s19 =>
 pc s19 fun v20 s21 =>
 pc s21 fun v22 s23 =>
 evBin2 tbx .add 3 v22 (.i .i64 1) fun v24 =>
 lo7 (v18, v20, v24, ()) h n) fun kk17 =>
 evIx tbx 9 v8 v12 fun v25 =>
 jp (fun (s26 : VT [0, 3, 4]) h n =>
 pc s26 fun v28 s29 =>
 pc s29 fun v30 s31 =>
 pc s31 fun v32 s33 =>
 kk17 (v28, v30, v32, ()) h n) fun kk27 =>
 evBin2 tbx .eql 5 v25 (.i .u8 38) fun v34 =>
 brB v34 (
 evApp tbx 73 9 v10 (.s 5 164843319355) h n fun v35 h n =>
 kk27 (v8, v35, v12, ()) h n) (
 evBin2 tbx .eql 5 v25 (.i .u8 60) fun v36 =>
 brB v36 (
 evApp tbx 73 9 v10 (.s 4 644641851) h n fun v37 h n =>
 kk27 (v8, v37, v12, ()) h n) (
 evBin2 tbx .eql 5 v25 (.i .u8 62) fun v38 =>
 brB v38 (
 evApp tbx 73 9 v10 (.s 4 644314171) h n fun v39 h n =>
 kk27 (v8, v39, v12, ()) h n) (
 evBin2 tbx .eql 5 v25 (.i .u8 34) fun v40 =>
 brB v40 (
 evApp tbx 73 9 v10 (.s 6 42268743398459) h n fun v41 h n =>
 kk27 (v8, v41, v12, ()) h n) (
 evIx tbx 9 v8 v12 fun v42 =>
 evBuildSl tbx 73 1 [(0, v42)] h n fun v43 h n =>
 evApp tbx 73 73 v10 v43 h n fun v44 h n =>
 kk27 (v8, v44, v12, ()) h n))))) (
 kk2 (v10, ()) h n)) fu (a0, .ns, (.i .i64 0), ()) h n
noncomputable def e34 : FE := ⟨Tryz.f34, bd Tryz.f34, [0], [2], (.q .z (.q .z (.q (.q .z (.b [3] (.l [0, 3, 4] (.q (.q .z (.c .z .z)) (.q (.b [0, 3, 4] (.q .z (.b [0, 3, 4] (.q .z (.c .z (.q .z (.c .z (.q .z (.c .z (.q .z (.c .z .z))))))))))) .z))))) (.q .z .z))))⟩
theorem q34 (fu : Nat) (cf : CF) (a0 : V) (h : H) (n : Id) (k : KV) : evF fu cf e34 [a0] h n k = s34 fu cf a0 h n k := by kernel_rfl
theorem p34 : PfOk Tryz.prog tbx mtab 34 (w1 (s34 fuX)) := pfo e34 Tryz.func34 (by kernel_rfl) (w1_ok (q34 fuX))
end Go.Proofs.Nw.X
end
