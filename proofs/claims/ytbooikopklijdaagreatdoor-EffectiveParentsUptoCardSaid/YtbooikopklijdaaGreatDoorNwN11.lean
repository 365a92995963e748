/- Bundle: NwXN4. -/
import Derived.Test.YtbooikopklijdaaGreatDoorNwN10
set_option linter.constructorNameAsVariable false
set_option linter.unusedVariables false
set_option linter.unusedSimpArgs false
set_option linter.unusedSectionVars false
section
/- printed by xg.py: seat F's functions, 4. -/
open Go Go.RowKit Go.Proofs
set_option linter.unusedVariables false
set_option maxRecDepth 100000
namespace Go.Proofs.Nw.X
open Go.Proofs.Nw.K
noncomputable def s161 (fu : Nat) (cf : CF) (a0 a1 : V) (h : H) (n : Id) (k : KV) : R :=
 evBox a0 h n fun v1 h n =>
 evAlloc tbx 32 h n fun v2 h n =>
 evFa tbx 24 0 v1 fun v3 =>
 evLoad tbx 9 v3 h fun v4 =>
 evFa tbx 24 2 v1 fun v5 =>
 evLoad tbx 9 v5 h fun v6 =>
 evBuild tbx 32 [(1, v4), (3, v6), (4, (.s 3 6971762))] fun v7 =>
 evAlloc tbx 32 h n fun v8 h n =>
 evStore tbx 32 v8 v7 h n fun _ h n =>
 evLen tbx 41 a1 fun v9 =>
 jp (fun (s10 : VT [4, 6]) h n =>
 pc s10 fun v12 s13 =>
 pc s13 fun v14 s15 =>
 evFa tbx 32 5 v14 fun v16 =>
 evLoad tbx 29 v16 h fun v17 =>
 evFa tbx 32 6 v14 fun v18 =>
 evLoad tbx 30 v18 h fun v19 =>
 evFa tbx 32 7 v14 fun v20 =>
 evLoad tbx 30 v20 h fun v21 =>
 evLoad tbx 29 v16 h fun w59 => cond (eqV 6 w59 v17) (
 evLoad tbx 30 v18 h fun w58 => cond (eqV 6 w58 v19) (
 evLoad tbx 30 v20 h fun w57 => cond (eqV 6 w57 v21) (
 cf 216 [v17] h n fun v22 h n =>
 evFa tbx 32 5 v14 fun v23 =>
 evLoad tbx 30 v18 h fun w56 => cond (eqV 6 w56 v19) (
 evLoad tbx 30 v20 h fun w55 => cond (eqV 6 w55 v21) (
 cf 217 [v19] h n fun v24 h n =>
 evLoad tbx 30 v20 h fun w54 => cond (eqV 6 w54 v21) (
 cf 217 [v21] h n fun v25 h n =>
 evStore tbx 29 v23 v22 h n fun _ h n =>
 evFa tbx 32 6 v14 fun v26 =>
 evStore tbx 30 v26 v24 h n fun _ h n =>
 evFa tbx 32 7 v14 fun v27 =>
 evStore tbx 30 v27 v25 h n fun _ h n =>
 evFa tbx 32 5 v14 fun v28 =>
 evLoad tbx 29 v28 h fun v29 =>
 evLen tbx 29 v29 fun v30 =>
 evBin2 tbx .gtr 3 v30 (.i .i64 100) fun v31 =>
 jp (fun (v32 : V) h n =>
 jp (fun (v34 : V) h n =>
 jp (fun (v36 : V) h n =>
 jp (fun (v38 : V) h n =>
 evPick v31 (.b true) v38 fun v40 =>
 jp (fun (v41 : V) h n =>
 jp (fun (v43 : V) h n =>
 jp (fun (v45 : V) h n =>
 jp (fun (v47 : V) h n =>
 evPick v40 (.b true) v47 fun v49 =>
 brB v49 (
 evBuild tbx 32 [] fun v50 =>
 evStore tbx 32 v12 v50 h n fun _ h n =>
 evLoad tbx 32 v12 h fun v51 =>
 k (.tp [v51, (.i .i64 3)]) h n) (
 evLoad tbx 32 v14 h fun v52 =>
 evStore tbx 32 v12 v52 h n fun _ h n =>
 evLoad tbx 32 v12 h fun v53 =>
 k (.tp [v53, (.i .i64 0)]) h n)) fun kk48 =>
 gdB v40 false ((evBin2 tbx .gtr 3 v45 (.i .i64 200) fun v => kk48 v h n)) (kk48 (.tp []) h n)) fun kk46 =>
 gdB v40 false ((evLen tbx 30 v43 fun v => kk46 v h n)) (kk46 (.tp []) h n)) fun kk44 =>
 gdB v40 false ((evLoad tbx 30 v41 h fun v => kk44 v h n)) (kk44 (.tp []) h n)) fun kk42 =>
 gdB v40 false ((evFa tbx 32 7 v14 fun v => kk42 v h n)) (kk42 (.tp []) h n)) fun kk39 =>
 gdB v31 false ((evBin2 tbx .gtr 3 v36 (.i .i64 200) fun v => kk39 v h n)) (kk39 (.tp []) h n)) fun kk37 =>
 gdB v31 false ((evLen tbx 30 v34 fun v => kk37 v h n)) (kk37 (.tp []) h n)) fun kk35 =>
 gdB v31 false ((evLoad tbx 30 v32 h fun v => kk35 v h n)) (kk35 (.tp []) h n)) fun kk33 =>
 gdB v31 false ((evFa tbx 32 6 v14 fun v => kk33 v h n)) (kk33 (.tp []) h n)) none) none) none) none) none) none) fun kk11 =>
 lpC [4, 6, 14, 15, 16] (fun lo61 s60 h n =>
 pc s60 fun v62 s63 =>
 pc s63 fun v64 s65 =>
 pc s65 fun v66 s67 =>
 pc s67 fun v68 s69 =>
 pc s69 fun v70 s71 =>
 evBin2 tbx .lss 3 v70 v68 fun v72 =>
 brB v72 (
 jp (fun (s73 : VT [4, 6, 14, 15, 16]) h n =>
 pc s73 fun v75 s76 =>
 pc s76 fun v77 s78 =>
 pc s78 fun v79 s80 =>
 pc s80 fun v81 s82 =>
 pc s82 fun v83 s84 =>
 evBin2 tbx .add 3 v83 (.i .i64 1) fun v85 =>
 lo61 (v75, v77, v79, v81, v85, ()) h n) fun kk74 =>
 evIa tbx 41 v66 v70 fun v86 =>
 evLoad tbx 32 v86 h fun v87 =>
 evAlloc tbx 32 h n fun v88 h n =>
 evStore tbx 32 v88 v87 h n fun _ h n =>
 jp (fun (s89 : VT [4, 6, 8, 14, 15, 16]) h n =>
 pc s89 fun v91 s92 =>
 pc s92 fun v93 s94 =>
 pc s94 fun v95 s96 =>
 pc s96 fun v97 s98 =>
 pc s98 fun v99 s100 =>
 pc s100 fun v101 s102 =>
 evFa tbx 32 5 v93 fun v103 =>
 evLoad tbx 29 v103 h fun v104 =>
 evFa tbx 32 5 v95 fun v105 =>
 evLoad tbx 29 v105 h fun v106 =>
 evFa tbx 32 6 v93 fun v107 =>
 evLoad tbx 30 v107 h fun v108 =>
 evFa tbx 32 6 v95 fun v109 =>
 evLoad tbx 30 v109 h fun v110 =>
 evFa tbx 32 7 v93 fun v111 =>
 evLoad tbx 30 v111 h fun v112 =>
 evFa tbx 32 7 v95 fun v113 =>
 evLoad tbx 30 v113 h fun v114 =>
 evLoad tbx 29 v103 h fun w132 => cond (eqV 6 w132 v104) (
 evLoad tbx 29 v105 h fun w131 => cond (eqV 6 w131 v106) (
 evLoad tbx 30 v107 h fun w130 => cond (eqV 6 w130 v108) (
 evLoad tbx 30 v109 h fun w129 => cond (eqV 6 w129 v110) (
 evLoad tbx 30 v111 h fun w128 => cond (eqV 6 w128 v112) (
 evLoad tbx 30 v113 h fun w127 => cond (eqV 6 w127 v114) (
 evApp tbx 29 29 v104 v106 h n fun v115 h n =>
 evFa tbx 32 5 v93 fun v116 =>
 evLoad tbx 30 v107 h fun w126 => cond (eqV 6 w126 v108) (
 evLoad tbx 30 v109 h fun w125 => cond (eqV 6 w125 v110) (
 evLoad tbx 30 v111 h fun w124 => cond (eqV 6 w124 v112) (
 evLoad tbx 30 v113 h fun w123 => cond (eqV 6 w123 v114) (
 evApp tbx 30 30 v108 v110 h n fun v117 h n =>
 evLoad tbx 30 v111 h fun w122 => cond (eqV 6 w122 v112) (
 evLoad tbx 30 v113 h fun w121 => cond (eqV 6 w121 v114) (
 evApp tbx 30 30 v112 v114 h n fun v118 h n =>
 evStore tbx 29 v116 v115 h n fun _ h n =>
 evFa tbx 32 6 v93 fun v119 =>
 evStore tbx 30 v119 v117 h n fun _ h n =>
 evFa tbx 32 7 v93 fun v120 =>
 evStore tbx 30 v120 v118 h n fun _ h n =>
 kk74 (v91, v93, v97, v99, v101, ()) h n) none) none) none) none) none) none) none) none) none) none) none) none) fun kk90 =>
 evBin2 tbx .eql 3 v70 (.i .i64 0) fun v133 =>
 brB v133 (
 evFa tbx 32 2 v88 fun v134 =>
 evLoad tbx 9 v134 h fun v135 =>
 evFa tbx 32 4 v88 fun v136 =>
 evLoad tbx 9 v136 h fun v137 =>
 evFa tbx 32 2 v64 fun v138 =>
 evLoad tbx 9 v134 h fun w145 => cond (eqV 6 w145 v135) (
 evLoad tbx 9 v136 h fun w144 => cond (eqV 6 w144 v137) (
 evBuildSl tbx 71 2 [(0, v137), (1, (.s 3 6971762))] h n fun v139 h n =>
 evLoad tbx 9 v134 h fun w143 => cond (eqV 6 w143 v135) (
 cf 42 [v139] h n fun v140 h n =>
 evLoad tbx 9 v134 h fun w142 => cond (eqV 6 w142 v135) (
 evStore tbx 9 v138 v135 h n fun _ h n =>
 evFa tbx 32 4 v64 fun v141 =>
 evStore tbx 9 v141 v140 h n fun _ h n =>
 kk90 (v62, v64, v88, v66, v68, v70, ()) h n) none) none) none) none) (
 kk90 (v62, v64, v88, v66, v68, v70, ()) h n)) (
 kk11 (v62, v64, ()) h n)) fu (v2, v8, a1, v9, (.i .i64 0), ()) h n
noncomputable def e161 : FE := ⟨Tryz.f161, bd Tryz.f161, [0, 1], [4, 5], (.q .z (.q .z (.q (.q .z (.b [4, 6] (.l [4, 6, 14, 15, 16] (.q .z (.q (.c .z .z) (.q (.b [4, 6, 14, 15, 16] (.q .z (.s [4, 6, 8, 14, 15, 16] (.q .z (.c .z .z)) .z))) .z)))))) (.q .z (.q (.q .z (.c (.q .z .z) .z)) (.q .z .z))))))⟩
theorem q161 (fu : Nat) (cf : CF) (a0 a1 : V) (h : H) (n : Id) (k : KV) : evF fu cf e161 [a0, a1] h n k = s161 fu cf a0 a1 h n k := by kernel_rfl
theorem p161 : PfOk Tryz.prog tbx mtab 161 (w2 (s161 fuX)) := pfo e161 Tryz.func161 (by kernel_rfl) (w2_ok (q161 fuX))
noncomputable def s162 (fu : Nat) (cf : CF) (a0 : V) (h : H) (n : Id) (k : KV) : R :=
 evMkMap h n fun v1 h n =>
 evMkMap h n fun v2 h n =>
 evBuild tbx 274 [(0, v1), (1, v2)] fun v3 =>
 evBox v3 h n fun v4 h n =>
 evLen tbx 29 a0 fun v5 =>
 jp (fun (s6 : VT [3]) h n =>
 pc s6 fun v8 s9 =>
 k v8 h n) fun kk7 =>
 lpC [3, 12, 13, 14] (fun lo11 s10 h n =>
 pc s10 fun v12 s13 =>
 pc s13 fun v14 s15 =>
 pc s15 fun v16 s17 =>
 pc s17 fun v18 s19 =>
 evBin2 tbx .lss 3 v18 v16 fun v20 =>
 brB v20 (
 jp (fun (s21 : VT [3, 12, 13, 14]) h n =>
 pc s21 fun v23 s24 =>
 pc s24 fun v25 s26 =>
 pc s26 fun v27 s28 =>
 pc s28 fun v29 s30 =>
 evBin2 tbx .add 3 v29 (.i .i64 1) fun v31 =>
 lo11 (v23, v25, v27, v31, ()) h n) fun kk22 =>
 evIa tbx 29 v14 v18 fun v32 =>
 evLoad tbx 57 v32 h fun v33 =>
 evAlloc tbx 57 h n fun v34 h n =>
 evStore tbx 57 v34 v33 h n fun _ h n =>
 evNc' v12 fun v35 =>
 evFa tbx 274 0 v35 fun v36 =>
 evLoad tbx 271 v36 h fun v37 =>
 evFa tbx 57 0 v34 fun v38 =>
 evLoad tbx 9 v38 h fun v39 =>
 evLook tbx mtab 271 v37 v39 true h fun v40 =>
 evExt 0 v40 fun v41 =>
 evExt 1 v40 fun v42 =>
 evLoad tbx 271 v36 h fun w56 => cond (eqV 6 w56 v37) (
 evLoad tbx 9 v38 h fun w55 => cond (eqV 6 w55 v39) (
 evLook tbx mtab 271 v37 v39 true h fun w54 => cond (eqV 6 w54 v40) (
 evUn .not v42 fun v43 =>
 brB v43 (
 evNc' v12 fun v44 =>
 evFa tbx 274 0 v44 fun v45 =>
 evLoad tbx 271 v45 h fun v46 =>
 evFa tbx 57 0 v34 fun v47 =>
 evLoad tbx 9 v47 h fun v48 =>
 evFa tbx 57 1 v34 fun v49 =>
 evLoad tbx 9 v49 h fun v50 =>
 evLoad tbx 271 v45 h fun w53 => cond (eqV 6 w53 v46) (
 evLoad tbx 9 v47 h fun w52 => cond (eqV 6 w52 v48) (
 evLoad tbx 9 v49 h fun w51 => cond (eqV 6 w51 v50) (
 evMapUpd mtab 271 v46 v48 v50 h n fun _ h n =>
 kk22 (v12, v14, v16, v18, ()) h n) none) none) none) (
 kk22 (v12, v14, v16, v18, ()) h n)) none) none) none) (
 kk7 (v12, ()) h n)) fu (v4, a0, v5, (.i .i64 0), ()) h n
noncomputable def e162 : FE := ⟨Tryz.f162, bd Tryz.f162, [0], [2], (.q .z (.q .z (.q (.q .z (.b [3] (.l [3, 12, 13, 14] (.q .z (.q (.c .z .z) (.q (.b [3, 12, 13, 14] (.q .z (.q .z (.q .z (.c .z .z))))) .z)))))) (.q .z .z))))⟩
theorem q162 (fu : Nat) (cf : CF) (a0 : V) (h : H) (n : Id) (k : KV) : evF fu cf e162 [a0] h n k = s162 fu cf a0 h n k := by kernel_rfl
theorem p162 : PfOk Tryz.prog tbx mtab 162 (w1 (s162 fuX)) := pfo e162 Tryz.func162 (by kernel_rfl) (w1_ok (q162 fuX))
noncomputable def s163 (fu : Nat) (cf : CF) (a0 a1 : V) (h : H) (n : Id) (k : KV) : R :=
 evBox a0 h n fun v1 h n =>
 evFa tbx 24 0 v1 fun v2 =>
 evLoad tbx 9 v2 h fun v3 =>
 evBuild tbx 57 [(0, (.s 15 583858270104738274456757006937114980)), (1, v3)] fun v4 =>
 evFa tbx 24 1 v1 fun v5 =>
 evLoad tbx 9 v5 h fun v6 =>
 evBuild tbx 57 [(0, (.s 18 9795516310933536653999961122899636987906404)), (1, v6)] fun v7 =>
 evFa tbx 24 2 v1 fun v8 =>
 evLoad tbx 9 v8 h fun v9 =>
 evBuild tbx 57 [(0, (.s 15 583858270104738274460964850787512174)), (1, v9)] fun v10 =>
 evBuildSl tbx 29 3 [(0, v4), (1, v7), (2, v10)] h n fun v11 h n =>
 evLen tbx 29 a1 fun v12 =>
 jp (fun (s13 : VT [5]) h n =>
 pc s13 fun v15 s16 =>
 k v15 h n) fun kk14 =>
 lpC [5, 18, 19, 20] (fun lo18 s17 h n =>
 pc s17 fun v19 s20 =>
 pc s20 fun v21 s22 =>
 pc s22 fun v23 s24 =>
 pc s24 fun v25 s26 =>
 evBin2 tbx .lss 3 v25 v23 fun v27 =>
 brB v27 (
 jp (fun (s28 : VT [5, 18, 19, 20]) h n =>
 pc s28 fun v30 s31 =>
 pc s31 fun v32 s33 =>
 pc s33 fun v34 s35 =>
 pc s35 fun v36 s37 =>
 evBin2 tbx .add 3 v36 (.i .i64 1) fun v38 =>
 lo18 (v30, v32, v34, v38, ()) h n) fun kk29 =>
 evIa tbx 29 v21 v25 fun v39 =>
 evLoad tbx 57 v39 h fun v40 =>
 evAlloc tbx 57 h n fun v41 h n =>
 evStore tbx 57 v41 v40 h n fun _ h n =>
 evSlc tbx 29 v19 none (some (.i .i64 3)) fun v42 =>
 let v43 : V := (.fn 219 [v41])
 cf 218 [v42, v43] h n fun v44 h n =>
 evUn .not v44 fun v45 =>
 brB v45 (
 evLoad tbx 57 v41 h fun v46 =>
 evBuildSl tbx 29 1 [(0, v46)] h n fun v47 h n =>
 evApp tbx 29 29 v19 v47 h n fun v48 h n =>
 kk29 (v48, v21, v23, v25, ()) h n) (
 kk29 (v19, v21, v23, v25, ()) h n)) (
 kk14 (v19, ()) h n)) fu (v11, a1, v12, (.i .i64 0), ()) h n
noncomputable def e163 : FE := ⟨Tryz.f163, bd Tryz.f163, [0, 1], [4], (.q .z (.q .z (.q (.q .z (.b [5] (.l [5, 18, 19, 20] (.q .z (.q (.c .z .z) (.q (.b [5, 18, 19, 20] (.q .z (.q .z (.c .z .z)))) .z)))))) (.q .z .z))))⟩
theorem q163 (fu : Nat) (cf : CF) (a0 a1 : V) (h : H) (n : Id) (k : KV) : evF fu cf e163 [a0, a1] h n k = s163 fu cf a0 a1 h n k := by kernel_rfl
theorem p163 : PfOk Tryz.prog tbx mtab 163 (w2 (s163 fuX)) := pfo e163 Tryz.func163 (by kernel_rfl) (w2_ok (q163 fuX))
noncomputable def s164 (fu : Nat) (cf : CF) (a0 a1 : V) (h : H) (n : Id) (k : KV) : R :=
 evLen tbx 29 a1 fun v1 =>
 jp (fun (s2 : VT [6]) h n =>
 pc s2 fun v4 s5 =>
 k (.tp [v4, (.i .i64 0)]) h n) fun kk3 =>
 lpC [0, 6, 12, 13, 14] (fun lo7 s6 h n =>
 pc s6 fun v8 s9 =>
 pc s9 fun v10 s11 =>
 pc s11 fun v12 s13 =>
 pc s13 fun v14 s15 =>
 pc s15 fun v16 s17 =>
 evBin2 tbx .lss 3 v16 v14 fun v18 =>
 brB v18 (
 jp (fun (s19 : VT [0, 6, 12, 13, 14]) h n =>
 pc s19 fun v21 s22 =>
 pc s22 fun v23 s24 =>
 pc s24 fun v25 s26 =>
 pc s26 fun v27 s28 =>
 pc s28 fun v29 s30 =>
 evBin2 tbx .add 3 v29 (.i .i64 1) fun v31 =>
 lo7 (v21, v23, v25, v27, v31, ()) h n) fun kk20 =>
 evIa tbx 29 v12 v16 fun v32 =>
 evLoad tbx 57 v32 h fun v33 =>
 evAlloc tbx 57 h n fun v34 h n =>
 evStore tbx 57 v34 v33 h n fun _ h n =>
 jp (fun (s35 : VT [0, 6, 8, 9, 12, 13, 14]) h n =>
 pc s35 fun v37 s38 =>
 pc s38 fun v39 s40 =>
 pc s40 fun v41 s42 =>
 pc s42 fun v43 s44 =>
 pc s44 fun v45 s46 =>
 pc s46 fun v47 s48 =>
 pc s48 fun v49 s50 =>
 evFa tbx 57 1 v41 fun v51 =>
 evLoad tbx 9 v51 h fun v52 =>
 evFa tbx 57 0 v41 fun v53 =>
 evLoad tbx 9 v53 h fun v54 =>
 cf 220 [v43, v52, v54, (.b true)] h n fun v55 h n =>
 evExt 0 v55 fun v56 =>
 evExt 1 v55 fun v57 =>
 evBin2 tbx .neq 33 v57 (.i .i64 0) fun v58 =>
 brB v58 (
 k (.tp [.ns, v57]) h n) (
 evFa tbx 57 0 v41 fun v59 =>
 evLoad tbx 9 v59 h fun v60 =>
 evBuild tbx 57 [(0, v60), (1, v56)] fun v61 =>
 evBuildSl tbx 29 1 [(0, v61)] h n fun v62 h n =>
 evApp tbx 29 29 v39 v62 h n fun v63 h n =>
 kk20 (v37, v63, v45, v47, v49, ()) h n)) fun kk36 =>
 evFa tbx 57 1 v34 fun v64 =>
 evLoad tbx 9 v64 h fun v65 =>
 evNc' v8 fun v66 =>
 evFa tbx 274 0 v66 fun v67 =>
 evLoad tbx 271 v67 h fun v68 =>
 evFa tbx 57 0 v34 fun v69 =>
 evLoad tbx 9 v69 h fun v70 =>
 evLook tbx mtab 271 v68 v70 false h fun v71 =>
 evBin2 tbx .neq 9 v65 v71 fun v72 =>
 evLoad tbx 9 v64 h fun w82 => cond (eqV 6 w82 v65) (
 evLoad tbx 271 v67 h fun w81 => cond (eqV 6 w81 v68) (
 evLoad tbx 9 v69 h fun w80 => cond (eqV 6 w80 v70) (
 evLook tbx mtab 271 v68 v70 false h fun w79 => cond (eqV 6 w79 v71) (
 brB v72 (
 evNc' v8 fun v73 =>
 evFa tbx 274 0 v73 fun v74 =>
 evLoad tbx 271 v74 h fun v75 =>
 evMkMap h n fun v76 h n =>
 evBuild tbx 274 [(0, v75), (1, v76)] fun v77 =>
 evBox v77 h n fun v78 h n =>
 kk36 (v8, v10, v34, v78, v12, v14, v16, ()) h n) (
 kk36 (v8, v10, v34, v8, v12, v14, v16, ()) h n)) none) none) none) none) (
 kk3 (v10, ()) h n)) fu (a0, .ns, a1, v1, (.i .i64 0), ()) h n
noncomputable def e164 : FE := ⟨Tryz.f164, bd Tryz.f164, [0, 1], [4, 5], (.q .z (.q .z (.q (.q .z (.b [6] (.l [0, 6, 12, 13, 14] (.q .z (.q (.c .z .z) (.q (.b [0, 6, 12, 13, 14] (.q .z (.q .z (.s [0, 6, 8, 9, 12, 13, 14] (.q .z (.c .z .z)) (.q .z (.q (.q .z (.c (.q .z .z) .z)) .z)))))) .z)))))) (.q .z .z))))⟩
theorem q164 (fu : Nat) (cf : CF) (a0 a1 : V) (h : H) (n : Id) (k : KV) : evF fu cf e164 [a0, a1] h n k = s164 fu cf a0 a1 h n k := by kernel_rfl
theorem p164 : PfOk Tryz.prog tbx mtab 164 (w2 (s164 fuX)) := pfo e164 Tryz.func164 (by kernel_rfl) (w2_ok (q164 fuX))
noncomputable def s165 (fu : Nat) (cf : CF) (a0 a1 : V) (h : H) (n : Id) (k : KV) : R :=
 jp (fun (s3 : VT [4]) h n =>
 pc s3 fun v6 s7 =>
 k v6 h n) fun kk1 =>
 jp (lpC [0, 1] (fun lo5 s4 h n =>
 pc s4 fun v8 s9 =>
 pc s9 fun v10 s11 =>
 evLen tbx 278 v10 fun v12 =>
 evBin2 tbx .eql 3 v12 (.i .i64 0) fun v13 =>
 brB v13 (
 k (.i .i64 0) h n) (
 evIa tbx 278 v10 (.i .i64 0) fun v14 =>
 evLoad tbx 169 v14 h fun v15 =>
 evNc' v15 fun v16 =>
 evLoad tbx 9 v16 h fun v17 =>
 cf 220 [v8, v17, (.s 0 0), (.b false)] h n fun v18 h n =>
 evExt 0 v18 fun v19 =>
 evExt 1 v18 fun v20 =>
 evBin2 tbx .neq 33 v20 (.i .i64 0) fun v21 =>
 brB v21 (
 k v20 h n) (
 evIa tbx 278 v10 (.i .i64 0) fun v22 =>
 evLoad tbx 169 v22 h fun v23 =>
 evNc' v23 fun v24 =>
 evStore tbx 9 v24 v19 h n fun _ h n =>
 evSlc tbx 278 v10 (some (.i .i64 1)) none fun v25 =>
 lo5 (v8, v25, ()) h n))) fu) fun lo2 =>
 evLen tbx 278 a1 fun v26 =>
 evBin2 tbx .eql 3 v26 (.i .i64 0) fun v27 =>
 brB v27 (
 k (.i .i64 0) h n) (
 evIa tbx 278 a1 (.i .i64 0) fun v28 =>
 evLoad tbx 169 v28 h fun v29 =>
 evNc' v29 fun v30 =>
 evLoad tbx 9 v30 h fun v31 =>
 cf 220 [a0, v31, (.s 0 0), (.b false)] h n fun v32 h n =>
 evExt 0 v32 fun v33 =>
 evExt 1 v32 fun v34 =>
 evBin2 tbx .neq 33 v34 (.i .i64 0) fun v35 =>
 brB v35 (
 k v34 h n) (
 evIa tbx 278 a1 (.i .i64 0) fun v36 =>
 evLoad tbx 169 v36 h fun v37 =>
 evNc' v37 fun v38 =>
 evStore tbx 9 v38 v33 h n fun _ h n =>
 evSlc tbx 278 a1 (some (.i .i64 1)) none fun v39 =>
 lo2 (a0, v39, ()) h n))
noncomputable def e165 : FE := ⟨Tryz.f165, bd Tryz.f165, [0, 1], [4], (.q .z (.g 0 [0, 1] [4] (.q .z (.q (.q .z (.c (.q .z .z) .z)) (.q .z (.q (.q .z (.c (.q .z .z) .z)) (.q .z (.q .z .z)))))) (.q .z (.q (.q .z (.c (.q .z .z) .z)) (.q .z (.q (.q .z (.c (.q .z .z) .z)) (.q .z (.q .z .z))))))))⟩
theorem q165 (fu : Nat) (cf : CF) (a0 a1 : V) (h : H) (n : Id) (k : KV) : evF fu cf e165 [a0, a1] h n k = s165 fu cf a0 a1 h n k := by kernel_rfl
theorem p165 : PfOk Tryz.prog tbx mtab 165 (w2 (s165 fuX)) := pfo e165 Tryz.func165 (by kernel_rfl) (w2_ok (q165 fuX))
noncomputable def s166 (fu : Nat) (cf : CF) (a0 a1 a2 : V) (h : H) (n : Id) (k : KV) : R :=
 evLen tbx 30 a1 fun v1 =>
 jp (fun (s2 : VT [8]) h n =>
 pc s2 fun v4 s5 =>
 k (.tp [v4, (.i .i64 0)]) h n) fun kk3 =>
 lpC [0, 2, 8, 13, 14, 15] (fun lo7 s6 h n =>
 pc s6 fun v8 s9 =>
 pc s9 fun v10 s11 =>
 pc s11 fun v12 s13 =>
 pc s13 fun v14 s15 =>
 pc s15 fun v16 s17 =>
 pc s17 fun v18 s19 =>
 evBin2 tbx .lss 3 v18 v16 fun v20 =>
 brB v20 (
 jp (fun (s21 : VT [0, 2, 8, 13, 14, 15]) h n =>
 pc s21 fun v23 s24 =>
 pc s24 fun v25 s26 =>
 pc s26 fun v27 s28 =>
 pc s28 fun v29 s30 =>
 pc s30 fun v31 s32 =>
 pc s32 fun v33 s34 =>
 evBin2 tbx .add 3 v33 (.i .i64 1) fun v35 =>
 lo7 (v23, v25, v27, v29, v31, v35, ()) h n) fun kk22 =>
 evIa tbx 30 v14 v18 fun v36 =>
 evLoad tbx 51 v36 h fun v37 =>
 evAlloc tbx 51 h n fun v38 h n =>
 evStore tbx 51 v38 v37 h n fun _ h n =>
 evLoad tbx 51 v38 h fun v39 =>
 cf 221 [v8, v39, v10] h n fun v40 h n =>
 evExt 0 v40 fun v41 =>
 evExt 1 v40 fun v42 =>
 evAlloc tbx 51 h n fun v43 h n =>
 evStore tbx 51 v43 v41 h n fun _ h n =>
 evBin2 tbx .neq 33 v42 (.i .i64 0) fun v44 =>
 brB v44 (
 k (.tp [.ns, v42]) h n) (
 evLoad tbx 51 v43 h fun v45 =>
 evBuildSl tbx 30 1 [(0, v45)] h n fun v46 h n =>
 evApp tbx 30 30 v12 v46 h n fun v47 h n =>
 kk22 (v8, v10, v47, v14, v16, v18, ()) h n)) (
 kk3 (v12, ()) h n)) fu (a0, a2, .ns, a1, v1, (.i .i64 0), ()) h n
noncomputable def e166 : FE := ⟨Tryz.f166, bd Tryz.f166, [0, 1, 2], [6, 7], (.q .z (.q .z (.q (.q .z (.b [8] (.l [0, 2, 8, 13, 14, 15] (.q .z (.q (.c .z .z) (.q (.b [0, 2, 8, 13, 14, 15] (.q .z (.q .z (.q (.q .z (.c (.q .z .z) .z)) .z)))) .z)))))) (.q .z .z))))⟩
theorem q166 (fu : Nat) (cf : CF) (a0 a1 a2 : V) (h : H) (n : Id) (k : KV) : evF fu cf e166 [a0, a1, a2] h n k = s166 fu cf a0 a1 a2 h n k := by kernel_rfl
theorem p166 : PfOk Tryz.prog tbx mtab 166 (w3 (s166 fuX)) := pfo e166 Tryz.func166 (by kernel_rfl) (w3_ok (q166 fuX))
noncomputable def s167 (fu : Nat) (cf : CF) (a0 a1 : V) (h : H) (n : Id) (k : KV) : R :=
 cf 222 [a0, a1] h n fun v1 h n =>
 evBin2 tbx .eql 3 v1 (.i .i64 (-1)) fun v2 =>
 brB v2 (
 k a0 h n) (
 evBin2 tbx .add 3 v1 (.i .i64 1) fun v3 =>
 jp (fun (s4 : VT [0, 5]) h n =>
 pc s4 fun v6 s7 =>
 pc s7 fun v8 s9 =>
 evSlc tbx 30 v6 (some v8) none fun v10 =>
 evClear tbx 30 v10 h n fun _ h n =>
 evSlc tbx 30 v6 none (some v8) fun v11 =>
 k v11 h n) fun kk5 =>
 lpC [0, 1, 5, 6] (fun lo13 s12 h n =>
 pc s12 fun v14 s15 =>
 pc s15 fun v16 s17 =>
 pc s17 fun v18 s19 =>
 pc s19 fun v20 s21 =>
 evLen tbx 30 v14 fun v22 =>
 evBin2 tbx .lss 3 v20 v22 fun v23 =>
 brB v23 (
 jp (fun (s24 : VT [0, 1, 5, 6]) h n =>
 pc s24 fun v26 s27 =>
 pc s27 fun v28 s29 =>
 pc s29 fun v30 s31 =>
 pc s31 fun v32 s33 =>
 evBin2 tbx .add 3 v32 (.i .i64 1) fun v34 =>
 lo13 (v26, v28, v30, v34, ()) h n) fun kk25 =>
 evIa tbx 30 v14 v20 fun v35 =>
 evLoad tbx 51 v35 h fun v36 =>
 evAlloc tbx 51 h n fun v37 h n =>
 evStore tbx 51 v37 v36 h n fun _ h n =>
 evLoad tbx 51 v37 h fun v38 =>
 evCall cf v16 [v38] h n fun v39 h n =>
 evUn .not v39 fun v40 =>
 brB v40 (
 evLoad tbx 51 v37 h fun v41 =>
 evIa tbx 30 v14 v18 fun v42 =>
 evStore tbx 51 v42 v41 h n fun _ h n =>
 evBin2 tbx .add 3 v18 (.i .i64 1) fun v43 =>
 kk25 (v14, v16, v43, v20, ()) h n) (
 kk25 (v14, v16, v18, v20, ()) h n)) (
 kk5 (v14, v18, ()) h n)) fu (a0, a1, v1, v3, ()) h n)
noncomputable def e167 : FE := ⟨Tryz.f167, bd Tryz.f167, [0, 1], [4], (.q .z (.q .z (.q (.q .z (.c (.q .z .z) .z)) (.q (.q .z (.b [0, 5] (.l [0, 1, 5, 6] (.q (.q .z (.c .z .z)) (.q (.b [0, 1, 5, 6] (.q .z (.q .z (.c (.q .z .z) .z)))) .z))))) (.q .z (.q .z .z))))))⟩
theorem q167 (fu : Nat) (cf : CF) (a0 a1 : V) (h : H) (n : Id) (k : KV) : evF fu cf e167 [a0, a1] h n k = s167 fu cf a0 a1 h n k := by kernel_rfl
theorem p167 : PfOk Tryz.prog tbx mtab 167 (w2 (s167 fuX)) := pfo e167 Tryz.func167 (by kernel_rfl) (w2_ok (q167 fuX))
noncomputable def s168 (fu : Nat) (cf : CF) (a0 : V) (h : H) (n : Id) (k : KV) : R :=
 evBox a0 h n fun v1 h n =>
 evFa tbx 51 5 v1 fun v2 =>
 evLoad tbx 9 v2 h fun v3 =>
 evBin2 tbx .eql 9 v3 (.s 6 115918758703732) fun v4 =>
 k v4 h n
noncomputable def e168 : FE := ⟨Tryz.f168, bd Tryz.f168, [0], [2], (.q .z (.q .z .z))⟩
theorem q168 (fu : Nat) (cf : CF) (a0 : V) (h : H) (n : Id) (k : KV) : evF fu cf e168 [a0] h n k = s168 fu cf a0 h n k := by kernel_rfl
theorem p168 : PfOk Tryz.prog tbx mtab 168 (w1 (s168 fuX)) := pfo e168 Tryz.func168 (by kernel_rfl) (w1_ok (q168 fuX))
noncomputable def s169 (fu : Nat) (cf : CF) (a0 a1 : V) (h : H) (n : Id) (k : KV) : R :=
 evBox a0 h n fun v1 h n =>
 evLoad tbx 51 v1 h fun v2 =>
 cf 46 [v2] h n fun v3 h n =>
 evLoad tbx 227 a1 h fun v4 =>
 evLook tbx mtab 227 v4 v3 false h fun v5 =>
 evLoad tbx 227 a1 h fun v6 =>
 evMapUpd mtab 227 v6 v3 (.b true) h n fun _ h n =>
 k v5 h n
noncomputable def e169 : FE := ⟨Tryz.f169, bd Tryz.f169, [0, 1], [3], (.q .z (.q .z (.q .z (.q .z (.q .z .z)))))⟩
theorem q169 (fu : Nat) (cf : CF) (a0 a1 : V) (h : H) (n : Id) (k : KV) : evF fu cf e169 [a0, a1] h n k = s169 fu cf a0 a1 h n k := by kernel_rfl
theorem p169 : PfOk Tryz.prog tbx mtab 169 (w2 (s169 fuX)) := pfo e169 Tryz.func169 (by kernel_rfl) (w2_ok (q169 fuX))
noncomputable def s170 (fu : Nat) (cf : CF) (a0 a1 : V) (h : H) (n : Id) (k : KV) : R :=
 evAlloc tbx 51 h n fun v1 h n =>
 jp (fun (s4 : VT [4, 5]) h n =>
 pc s4 fun v7 s8 =>
 pc s8 fun v9 s10 =>
 evLoad tbx 51 v7 h fun v11 =>
 k (.tp [v11, v9]) h n) fun kk2 =>
 jp (lpC [0, 1, 4] (fun lo6 s5 h n =>
 pc s5 fun v12 s13 =>
 pc s13 fun v14 s15 =>
 pc s15 fun v16 s17 =>
 evLen tbx 30 v12 fun v18 =>
 evBin2 tbx .eql 3 v18 (.i .i64 0) fun v19 =>
 brB v19 (
 evBuild tbx 51 [] fun v20 =>
 evStore tbx 51 v16 v20 h n fun _ h n =>
 evLoad tbx 51 v16 h fun v21 =>
 k (.tp [v21, (.b false)]) h n) (
 evIa tbx 30 v12 (.i .i64 0) fun v22 =>
 evLoad tbx 51 v22 h fun v23 =>
 cf 46 [v23] h n fun v24 h n =>
 evBin2 tbx .eql 9 v24 v14 fun v25 =>
 brB v25 (
 evIa tbx 30 v12 (.i .i64 0) fun v26 =>
 evLoad tbx 51 v26 h fun v27 =>
 evAlloc tbx 51 h n fun v28 h n =>
 evStore tbx 51 v28 v27 h n fun _ h n =>
 evFa tbx 51 7 v28 fun v29 =>
 evLoad tbx 49 v29 h fun v30 =>
 cf 113 [v30] h n fun v31 h n =>
 evFa tbx 51 7 v28 fun v32 =>
 evStore tbx 49 v32 v31 h n fun _ h n =>
 evLoad tbx 51 v28 h fun v33 =>
 evStore tbx 51 v16 v33 h n fun _ h n =>
 evLoad tbx 51 v16 h fun v34 =>
 k (.tp [v34, (.b true)]) h n) (
 evSlc tbx 30 v12 (some (.i .i64 1)) none fun v35 =>
 lo6 (v35, v14, v16, ()) h n))) fu) fun lo3 =>
 evLen tbx 30 a0 fun v36 =>
 evBin2 tbx .eql 3 v36 (.i .i64 0) fun v37 =>
 brB v37 (
 evBuild tbx 51 [] fun v38 =>
 evStore tbx 51 v1 v38 h n fun _ h n =>
 evLoad tbx 51 v1 h fun v39 =>
 k (.tp [v39, (.b false)]) h n) (
 evIa tbx 30 a0 (.i .i64 0) fun v40 =>
 evLoad tbx 51 v40 h fun v41 =>
 cf 46 [v41] h n fun v42 h n =>
 evBin2 tbx .eql 9 v42 a1 fun v43 =>
 brB v43 (
 evIa tbx 30 a0 (.i .i64 0) fun v44 =>
 evLoad tbx 51 v44 h fun v45 =>
 evAlloc tbx 51 h n fun v46 h n =>
 evStore tbx 51 v46 v45 h n fun _ h n =>
 evFa tbx 51 7 v46 fun v47 =>
 evLoad tbx 49 v47 h fun v48 =>
 cf 113 [v48] h n fun v49 h n =>
 evFa tbx 51 7 v46 fun v50 =>
 evStore tbx 49 v50 v49 h n fun _ h n =>
 evLoad tbx 51 v46 h fun v51 =>
 evStore tbx 51 v1 v51 h n fun _ h n =>
 evLoad tbx 51 v1 h fun v52 =>
 k (.tp [v52, (.b true)]) h n) (
 evSlc tbx 30 a0 (some (.i .i64 1)) none fun v53 =>
 lo3 (v53, a1, v1, ()) h n))
noncomputable def e170 : FE := ⟨Tryz.f170, bd Tryz.f170, [0, 1], [4, 5], (.q .z (.g 0 [0, 1, 4] [4, 5] (.q .z (.q (.q .z (.c (.q .z .z) .z)) (.q (.q .z (.c (.q .z (.q .z (.q .z .z))) .z)) (.q .z .z)))) (.q .z (.q (.q .z (.c (.q .z .z) .z)) (.q (.q .z (.c (.q .z (.q .z (.q .z .z))) .z)) (.q .z .z))))))⟩
theorem q170 (fu : Nat) (cf : CF) (a0 a1 : V) (h : H) (n : Id) (k : KV) : evF fu cf e170 [a0, a1] h n k = s170 fu cf a0 a1 h n k := by kernel_rfl
theorem p170 : PfOk Tryz.prog tbx mtab 170 (w2 (s170 fuX)) := pfo e170 Tryz.func170 (by kernel_rfl) (w2_ok (q170 fuX))
noncomputable def s171 (fu : Nat) (cf : CF) (a0 a1 : V) (h : H) (n : Id) (k : KV) : R :=
 cf 223 [a0, a1] h n fun v1 h n =>
 k v1 h n
noncomputable def e171 : FE := ⟨Tryz.f171, bd Tryz.f171, [0, 1], [4], (.q .z (.q .z .z))⟩
theorem q171 (fu : Nat) (cf : CF) (a0 a1 : V) (h : H) (n : Id) (k : KV) : evF fu cf e171 [a0, a1] h n k = s171 fu cf a0 a1 h n k := by kernel_rfl
theorem p171 : PfOk Tryz.prog tbx mtab 171 (w2 (s171 fuX)) := pfo e171 Tryz.func171 (by kernel_rfl) (w2_ok (q171 fuX))
noncomputable def s172 (fu : Nat) (cf : CF) (a0 : V) (h : H) (n : Id) (k : KV) : R :=
 evAlloc tbx 250 h n fun v1 h n =>
 cf 114 [a0] h n fun v2 h n =>
 evUn .not v2 fun v3 =>
 brB v3 (
 evBuild tbx 250 [] fun v4 =>
 evStore tbx 250 v1 v4 h n fun _ h n =>
 evLoad tbx 250 v1 h fun v5 =>
 k (.tp [v5, (.s 0 0), (.b false)]) h n) (
 cf 224 [a0, (.s 2 23849)] h n fun v6 h n =>
 evBin2 tbx .lss 3 v6 (.i .i64 0) fun v7 =>
 brB v7 (
 evBuild tbx 250 [] fun v8 =>
 evStore tbx 250 v1 v8 h n fun _ h n =>
 evLoad tbx 250 v1 h fun v9 =>
 k (.tp [v9, (.s 0 0), (.b false)]) h n) (
 evIx tbx 9 a0 (.i .i64 0) fun v10 =>
 evBin2 tbx .eql 5 v10 (.i .u8 91) fun v11 =>
 evIx tbx 9 a0 v6 fun v12 =>
 evBin2 tbx .eql 5 v12 (.i .u8 93) fun v13 =>
 evBuild tbx 250 [(2, v11), (3, v13)] fun v14 =>
 evAlloc tbx 250 h n fun v15 h n =>
 evStore tbx 250 v15 v14 h n fun _ h n =>
 evSlc tbx 9 a0 (some (.i .i64 1)) (some v6) fun v16 =>
 cf 225 [v16, (.s 1 44)] h n fun v17 h n =>
 evExt 0 v17 fun v18 =>
 evExt 1 v17 fun v19 =>
 evExt 2 v17 fun v20 =>
 jp (fun (s21 : VT [0, 2, 5, 6, 7, 8, 9]) h n =>
 pc s21 fun v23 s24 =>
 pc s24 fun v25 s26 =>
 pc s26 fun v27 s28 =>
 pc s28 fun v29 s30 =>
 pc s30 fun v31 s32 =>
 pc s32 fun v33 s34 =>
 pc s34 fun v35 s36 =>
 cf 226 [v31, (.s 1 32)] h n fun v37 h n =>
 cf 226 [v33, (.s 1 32)] h n fun v38 h n =>
 evFa tbx 250 0 v29 fun v39 =>
 evStore tbx 9 v39 v37 h n fun _ h n =>
 evFa tbx 250 1 v29 fun v40 =>
 evStore tbx 9 v40 v38 h n fun _ h n =>
 evUn .not v35 fun v41 =>
 jp (fun (v42 : V) h n =>
 jp (fun (v44 : V) h n =>
 jp (fun (v46 : V) h n =>
 jp (fun (v48 : V) h n =>
 jp (fun (v50 : V) h n =>
 jp (fun (v52 : V) h n =>
 jp (fun (v54 : V) h n =>
 jp (fun (v56 : V) h n =>
 evPick v41 v56 (.b false) fun v58 =>
 brB v58 (
 evBuild tbx 250 [] fun v59 =>
 evStore tbx 250 v25 v59 h n fun _ h n =>
 evLoad tbx 250 v25 h fun v60 =>
 k (.tp [v60, (.s 0 0), (.b false)]) h n) (
 evLoad tbx 250 v29 h fun v61 =>
 evBin2 tbx .add 3 v27 (.i .i64 1) fun v62 =>
 evSlc tbx 9 v23 (some v62) none fun v63 =>
 evLoad tbx 250 v29 h fun v64 =>
 evLoad tbx 250 v29 h fun w69 => cond (eqV 6 w69 v61) (
 evLoad tbx 250 v29 h fun w68 => cond (eqV 6 w68 v64) (
 cf 227 [v64] h n fun v65 h n =>
 evLoad tbx 250 v29 h fun w67 => cond (eqV 6 w67 v61) (
 evStore tbx 250 v25 v61 h n fun _ h n =>
 evLoad tbx 250 v25 h fun v66 =>
 k (.tp [v66, v63, v65]) h n) none) none) none)) fun kk57 =>
 gdB v41 true ((evPick v48 (.b true) v54 fun v => kk57 v h n)) (kk57 (.tp []) h n)) fun kk55 =>
 gdB v48 false ((evUn .not v52 fun v => kk55 v h n)) (kk55 (.tp []) h n)) fun kk53 =>
 gdB v48 false ((evLoad tbx 4 v50 h fun v => kk53 v h n)) (kk53 (.tp []) h n)) fun kk51 =>
 gdB v48 false ((evFa tbx 250 3 v29 fun v => kk51 v h n)) (kk51 (.tp []) h n)) fun kk49 =>
 gdB v41 true (kk49 v46 h n) (kk49 (.tp []) h n)) fun kk47 =>
 gdB v41 true ((evUn .not v44 fun v => kk47 v h n)) (kk47 (.tp []) h n)) fun kk45 =>
 gdB v41 true ((evLoad tbx 4 v42 h fun v => kk45 v h n)) (kk45 (.tp []) h n)) fun kk43 =>
 gdB v41 true ((evFa tbx 250 2 v29 fun v => kk43 v h n)) (kk43 (.tp []) h n)) fun kk22 =>
 evUn .not v20 fun v70 =>
 brB v70 (
 kk22 (a0, v1, v6, v15, v18, v18, v20, ()) h n) (
 kk22 (a0, v1, v6, v15, v18, v19, v20, ()) h n)))
noncomputable def e172 : FE := ⟨Tryz.f172, bd Tryz.f172, [0], [2, 3, 4], (.q .z (.q (.q .z (.c (.q .z .z) .z)) (.q .z (.q (.q .z (.c (.q .z .z) .z)) (.q .z (.q .z (.s [0, 2, 5, 6, 7, 8, 9] (.q .z (.c .z .z)) (.q .z (.q (.q .z (.c (.q .z .z) .z)) (.q .z .z))))))))))⟩
theorem q172 (fu : Nat) (cf : CF) (a0 : V) (h : H) (n : Id) (k : KV) : evF fu cf e172 [a0] h n k = s172 fu cf a0 h n k := by kernel_rfl
theorem p172 : PfOk Tryz.prog tbx mtab 172 (w1 (s172 fuX)) := pfo e172 Tryz.func172 (by kernel_rfl) (w1_ok (q172 fuX))
noncomputable def s174 (fu : Nat) (cf : CF) (a0 a1 : V) (h : H) (n : Id) (k : KV) : R :=
 cf 228 [a0, a1] h n fun v1 h n =>
 evExt 0 v1 fun v2 =>
 evExt 1 v1 fun v3 =>
 k (.tp [v2, v3]) h n
noncomputable def e174 : FE := ⟨Tryz.f174, bd Tryz.f174, [0, 1], [4, 5], (.q .z (.q .z .z))⟩
theorem q174 (fu : Nat) (cf : CF) (a0 a1 : V) (h : H) (n : Id) (k : KV) : evF fu cf e174 [a0, a1] h n k = s174 fu cf a0 a1 h n k := by kernel_rfl
theorem p174 : PfOk Tryz.prog tbx mtab 174 (w2 (s174 fuX)) := pfo e174 Tryz.func174 (by kernel_rfl) (w2_ok (q174 fuX))
noncomputable def s180 (fu : Nat) (cf : CF) (a0 a1 : V) (h : H) (n : Id) (k : KV) : R :=
 cf 234 [a0, a1] h n fun v1 h n =>
 evBin2 tbx .geq 3 v1 (.i .i64 0) fun v2 =>
 k v2 h n
noncomputable def e180 : FE := ⟨Tryz.f180, bd Tryz.f180, [0, 1], [4], (.q .z (.q .z .z))⟩
theorem q180 (fu : Nat) (cf : CF) (a0 a1 : V) (h : H) (n : Id) (k : KV) : evF fu cf e180 [a0, a1] h n k = s180 fu cf a0 a1 h n k := by kernel_rfl
theorem p180 : PfOk Tryz.prog tbx mtab 180 (w2 (s180 fuX)) := pfo e180 Tryz.func180 (by kernel_rfl) (w2_ok (q180 fuX))
noncomputable def s186 (fu : Nat) (cf : CF) (a0 a1 a2 a3 a4 : V) (h : H) (n : Id) (k : KV) : R :=
 evIa tbx 79 a0 a2 fun v1 =>
 evLoad tbx 24 v1 h fun v2 =>
 evIa tbx 79 a0 a1 fun v3 =>
 evLoad tbx 24 v3 h fun v4 =>
 evLoad tbx 24 v1 h fun w12 => cond (eqV 6 w12 v2) (
 evLoad tbx 24 v3 h fun w11 => cond (eqV 6 w11 v4) (
 evCall cf a4 [v2, v4] h n fun v5 h n =>
 evBin2 tbx .lss 3 v5 (.i .i64 0) fun v6 =>
 brB v6 (
 evNc' a3 fun v7 =>
 evLoad tbx 3 v7 h fun v8 =>
 evBin2 tbx .add 3 v8 (.i .i64 1) fun v9 =>
 evNc' a3 fun v10 =>
 evStore tbx 3 v10 v9 h n fun _ h n =>
 k (.tp [a2, a1]) h n) (
 k (.tp [a1, a2]) h n)) none) none
noncomputable def e186 : FE := ⟨Tryz.f186, bd Tryz.f186, [0, 1, 2, 3, 4], [10, 11], (.q .z (.q (.q .z (.c (.q .z (.q .z .z)) .z)) (.q .z .z)))⟩
theorem q186 (fu : Nat) (cf : CF) (a0 a1 a2 a3 a4 : V) (h : H) (n : Id) (k : KV) : evF fu cf e186 [a0, a1, a2, a3, a4] h n k = s186 fu cf a0 a1 a2 a3 a4 h n k := by kernel_rfl
theorem p186 : PfOk Tryz.prog tbx mtab 186 (w5 (s186 fuX)) := pfo e186 Tryz.func186 (by kernel_rfl) (w5_ok (q186 fuX))
noncomputable def s187 (fu : Nat) (cf : CF) (a0 a1 : V) (h : H) (n : Id) (k : KV) : R :=
 cf 236 [a0] h n fun v1 h n =>
 cf 236 [a1] h n fun v2 h n =>
 brB v1 (
 brB v2 (
 k (.i .i64 0) h n) (
 k (.i .i64 (-1)) h n)) (
 brB v2 (
 k (.i .i64 1) h n) (
 evBin2 tbx .lss 3 a0 a1 fun v3 =>
 brB v3 (
 k (.i .i64 (-1)) h n) (
 evBin2 tbx .gtr 3 a0 a1 fun v4 =>
 brB v4 (
 k (.i .i64 1) h n) (
 k (.i .i64 0) h n))))
noncomputable def e187 : FE := ⟨Tryz.f187, bd Tryz.f187, [0, 1], [4], (.q .z (.q .z (.q .z (.q (.q .z (.c (.q (.q .z (.c (.q .z .z) .z)) (.q .z .z)) .z)) (.q (.q .z (.c (.q .z .z) .z)) (.q (.q .z (.c (.q .z .z) .z)) (.q (.q .z (.c (.q .z .z) .z)) (.q .z .z))))))))⟩
theorem q187 (fu : Nat) (cf : CF) (a0 a1 : V) (h : H) (n : Id) (k : KV) : evF fu cf e187 [a0, a1] h n k = s187 fu cf a0 a1 h n k := by kernel_rfl
theorem p187 : PfOk Tryz.prog tbx mtab 187 (w2 (s187 fuX)) := pfo e187 Tryz.func187 (by kernel_rfl) (w2_ok (q187 fuX))
noncomputable def s188 (fu : Nat) (cf : CF) (a0 : V) (h : H) (n : Id) (k : KV) : R :=
 evBin2 tbx .geq 5 a0 (.i .u8 48) fun v1 =>
 jp (fun (v2 : V) h n =>
 jp (fun (v4 : V) h n =>
 evPick v1 v4 (.b false) fun v6 =>
 k v6 h n) fun kk5 =>
 gdB v1 true ((evBin2 tbx .leq 5 v2 (.i .u8 57) fun v => kk5 v h n)) (kk5 (.tp []) h n)) fun kk3 =>
 gdB v1 true (kk3 a0 h n) (kk3 (.tp []) h n)
noncomputable def e188 : FE := ⟨Tryz.f188, bd Tryz.f188, [0], [2], (.q .z (.q .z .z))⟩
theorem q188 (fu : Nat) (cf : CF) (a0 : V) (h : H) (n : Id) (k : KV) : evF fu cf e188 [a0] h n k = s188 fu cf a0 h n k := by kernel_rfl
theorem p188 : PfOk Tryz.prog tbx mtab 188 (w1 (s188 fuX)) := pfo e188 Tryz.func188 (by kernel_rfl) (w1_ok (q188 fuX))
noncomputable def s190 (fu : Nat) (cf : CF) (a0 a1 : V) (h : H) (n : Id) (k : KV) : R :=
 evBin2 tbx .eql 9 a0 (.s 0 0) fun v1 =>
 jp (fun (v2 : V) h n =>
 jp (fun (v4 : V) h n =>
 evPick v1 (.b true) v4 fun v6 =>
 brB v6 (
 k a0 h n) (
 evLen tbx 9 a1 fun v7 =>
 evBin2 tbx .eql 3 v7 (.i .i64 1) fun v8 =>
 jp (fun (v9 : V) h n =>
 jp (fun (v11 : V) h n =>
 jp (fun (v13 : V) h n =>
 evPick v8 v13 (.b false) fun v15 =>
 brB v15 (
 evIx tbx 9 a1 (.i .i64 0) fun v16 =>
 cf 237 [a0, v16] h n fun v17 h n =>
 k v17 h n) (
 cf 238 [a1] h n fun v18 h n =>
 evExt 0 v18 fun v19 =>
 evExt 1 v18 fun v20 =>
 evAlloc tbx 293 h n fun v21 h n =>
 evStore tbx 293 v21 v19 h n fun _ h n =>
 brB v20 (
 cf 239 [a0, v21] h n fun v22 h n =>
 k v22 h n) (
 cf 240 [a0, a1] h n fun v23 h n =>
 k v23 h n))) fun kk14 =>
 gdB v8 true ((evBin2 tbx .lss 5 v11 (.i .u8 128) fun v => kk14 v h n)) (kk14 (.tp []) h n)) fun kk12 =>
 gdB v8 true ((evIx tbx 9 v9 (.i .i64 0) fun v => kk12 v h n)) (kk12 (.tp []) h n)) fun kk10 =>
 gdB v8 true (kk10 a1 h n) (kk10 (.tp []) h n))) fun kk5 =>
 gdB v1 false ((evBin2 tbx .eql 9 v2 (.s 0 0) fun v => kk5 v h n)) (kk5 (.tp []) h n)) fun kk3 =>
 gdB v1 false (kk3 a1 h n) (kk3 (.tp []) h n)
noncomputable def e190 : FE := ⟨Tryz.f190, bd Tryz.f190, [0, 1], [4], (.q .z (.q (.q .z (.c (.q .z .z) .z)) (.q (.q .z (.c (.q .z .z) .z)) (.q (.q .z (.q .z (.c (.q .z .z) .z))) (.q .z .z)))))⟩
theorem q190 (fu : Nat) (cf : CF) (a0 a1 : V) (h : H) (n : Id) (k : KV) : evF fu cf e190 [a0, a1] h n k = s190 fu cf a0 a1 h n k := by kernel_rfl
theorem p190 : PfOk Tryz.prog tbx mtab 190 (w2 (s190 fuX)) := pfo e190 Tryz.func190 (by kernel_rfl) (w2_ok (q190 fuX))
noncomputable def s195 (fu : Nat) (cf : CF) (a0 : V) (h : H) (n : Id) (k : KV) : R :=
 evBin2 tbx .eql 5 a0 (.i .u8 9) fun v1 =>
 jp (fun (v2 : V) h n =>
 jp (fun (v4 : V) h n =>
 evPick v1 (.b true) v4 fun v6 =>
 jp (fun (v7 : V) h n =>
 jp (fun (v9 : V) h n =>
 evPick v6 (.b true) v9 fun v11 =>
 jp (fun (v12 : V) h n =>
 jp (fun (v14 : V) h n =>
 evPick v11 (.b true) v14 fun v16 =>
 k v16 h n) fun kk15 =>
 gdB v11 false ((evBin2 tbx .eql 5 v12 (.i .u8 32) fun v => kk15 v h n)) (kk15 (.tp []) h n)) fun kk13 =>
 gdB v11 false (kk13 a0 h n) (kk13 (.tp []) h n)) fun kk10 =>
 gdB v6 false ((evBin2 tbx .eql 5 v7 (.i .u8 13) fun v => kk10 v h n)) (kk10 (.tp []) h n)) fun kk8 =>
 gdB v6 false (kk8 a0 h n) (kk8 (.tp []) h n)) fun kk5 =>
 gdB v1 false ((evBin2 tbx .eql 5 v2 (.i .u8 10) fun v => kk5 v h n)) (kk5 (.tp []) h n)) fun kk3 =>
 gdB v1 false (kk3 a0 h n) (kk3 (.tp []) h n)
noncomputable def e195 : FE := ⟨Tryz.f195, bd Tryz.f195, [0], [2], (.q .z (.q .z .z))⟩
theorem q195 (fu : Nat) (cf : CF) (a0 : V) (h : H) (n : Id) (k : KV) : evF fu cf e195 [a0] h n k = s195 fu cf a0 h n k := by kernel_rfl
theorem p195 : PfOk Tryz.prog tbx mtab 195 (w1 (s195 fuX)) := pfo e195 Tryz.func195 (by kernel_rfl) (w1_ok (q195 fuX))
noncomputable def s196 (fu : Nat) (cf : CF) (a0 a1 : V) (h : H) (n : Id) (k : KV) : R :=
 evNc' a0 fun v1 =>
 evFa tbx 214 0 v1 fun v2 =>
 evLoad tbx 9 v2 h fun v3 =>
 cf 174 [v3, a1] h n fun v4 h n =>
 evExt 0 v4 fun v5 =>
 evExt 1 v4 fun v6 =>
 evNc' a0 fun v7 =>
 evFa tbx 214 0 v7 fun v8 =>
 evStore tbx 9 v8 v5 h n fun _ h n =>
 k v6 h n
noncomputable def e196 : FE := ⟨Tryz.f196, bd Tryz.f196, [0, 1], [4], (.q .z (.q .z (.q .z (.q .z .z))))⟩
theorem q196 (fu : Nat) (cf : CF) (a0 a1 : V) (h : H) (n : Id) (k : KV) : evF fu cf e196 [a0, a1] h n k = s196 fu cf a0 a1 h n k := by kernel_rfl
theorem p196 : PfOk Tryz.prog tbx mtab 196 (w2 (s196 fuX)) := pfo e196 Tryz.func196 (by kernel_rfl) (w2_ok (q196 fuX))
noncomputable def s200 (fu : Nat) (cf : CF) (a0 : V) (h : H) (n : Id) (k : KV) : R :=
 cf 245 [a0] h n fun v1 h n =>
 cf 246 [a0] h n fun v2 h n =>
 evBin2 tbx .neq 9 v1 (.s 0 0) fun v3 =>
 jp (fun (v4 : V) h n =>
 jp (fun (v6 : V) h n =>
 evPick v3 v6 (.b false) fun v8 =>
 jp (fun (v9 : V) h n =>
 jp (fun (v11 : V) h n =>
 jp (fun (v13 : V) h n =>
 jp (fun (v15 : V) h n =>
 evPick v8 v15 (.b false) fun v17 =>
 k v17 h n) fun kk16 =>
 gdB v8 true ((cf 244 [v9, v13] h n kk16)) (kk16 (.tp []) h n)) fun kk14 =>
 gdB v8 true ((evBuild tbx 222 [(0, (.i .i64 2)), (1, v11)] fun v => kk14 v h n)) (kk14 (.tp []) h n)) fun kk12 =>
 gdB v8 true (kk12 v1 h n) (kk12 (.tp []) h n)) fun kk10 =>
 gdB v8 true (kk10 a0 h n) (kk10 (.tp []) h n)) fun kk7 =>
 gdB v3 true ((cf 196 [v4, (.s 1 62)] h n kk7)) (kk7 (.tp []) h n)) fun kk5 =>
 gdB v3 true (kk5 a0 h n) (kk5 (.tp []) h n)
noncomputable def e200 : FE := ⟨Tryz.f200, bd Tryz.f200, [0], [2], (.q .z (.q .z (.q .z (.q .z .z))))⟩
theorem q200 (fu : Nat) (cf : CF) (a0 : V) (h : H) (n : Id) (k : KV) : evF fu cf e200 [a0] h n k = s200 fu cf a0 h n k := by kernel_rfl
theorem p200 : PfOk Tryz.prog tbx mtab 200 (w1 (s200 fuX)) := pfo e200 Tryz.func200 (by kernel_rfl) (w1_ok (q200 fuX))
noncomputable def s201 (fu : Nat) (cf : CF) (a0 : V) (h : H) (n : Id) (k : KV) : R :=
 jp (fun (s3 : VT [2]) h n =>
 pc s3 fun v6 s7 =>
 k v6 h n) fun kk1 =>
 jp (lpC [0, 3] (fun lo5 s4 h n =>
 pc s4 fun v8 s9 =>
 pc s9 fun v10 s11 =>
 cf 246 [v8] h n fun v12 h n =>
 jp (fun (s13 : VT [0, 3]) h n =>
 pc s13 fun v15 s16 =>
 pc s16 fun v17 s18 =>
 cf 247 [v15] h n fun v19 h n =>
 evExt 0 v19 fun v20 =>
 evExt 1 v19 fun v21 =>
 evAlloc tbx 303 h n fun v22 h n =>
 evStore tbx 303 v22 v20 h n fun _ h n =>
 evUn .not v21 fun v23 =>
 jp (fun (v24 : V) h n =>
 jp (fun (v26 : V) h n =>
 jp (fun (v28 : V) h n =>
 jp (fun (v30 : V) h n =>
 evPick v23 (.b true) v30 fun v32 =>
 brB v32 (
 k (.b false) h n) (
 evFa tbx 222 3 v17 fun v33 =>
 evLoad tbx 160 v33 h fun v34 =>
 evLoad tbx 303 v22 h fun v35 =>
 evBuildSl tbx 160 1 [(0, v35)] h n fun v36 h n =>
 evApp tbx 160 160 v34 v36 h n fun v37 h n =>
 evFa tbx 222 3 v17 fun v38 =>
 evStore tbx 160 v38 v37 h n fun _ h n =>
 lo5 (v15, v17, ()) h n)) fun kk31 =>
 gdB v23 false ((cf 248 [v26, v28] h n kk31)) (kk31 (.tp []) h n)) fun kk29 =>
 gdB v23 false (kk29 (.fn 249 [v22]) h n) (kk29 (.tp []) h n)) fun kk27 =>
 gdB v23 false ((evLoad tbx 160 v24 h fun v => kk27 v h n)) (kk27 (.tp []) h n)) fun kk25 =>
 gdB v23 false ((evFa tbx 222 3 v17 fun v => kk25 v h n)) (kk25 (.tp []) h n)) fun kk14 =>
 cf 196 [v8, (.s 1 62)] h n fun v39 h n =>
 brB v39 (
 evLoad tbx 222 v10 h fun v40 =>
 cf 244 [v8, v40] h n fun v41 h n =>
 k v41 h n) (
 cf 196 [v8, (.s 2 12094)] h n fun v42 h n =>
 brB v42 (
 evFa tbx 222 4 v10 fun v43 =>
 evStore tbx 4 v43 (.b true) h n fun _ h n =>
 evLoad tbx 222 v10 h fun v44 =>
 cf 244 [v8, v44] h n fun v45 h n =>
 k v45 h n) (
 evUn .not v12 fun v46 =>
 brB v46 (
 k (.b false) h n) (
 kk14 (v8, v10, ()) h n)))) fu) fun lo2 =>
 cf 245 [a0] h n fun v47 h n =>
 evBuild tbx 222 [(0, (.i .i64 1)), (1, v47)] fun v48 =>
 evAlloc tbx 222 h n fun v49 h n =>
 evStore tbx 222 v49 v48 h n fun _ h n =>
 evFa tbx 222 1 v49 fun v50 =>
 evLoad tbx 9 v50 h fun v51 =>
 evBin2 tbx .eql 9 v51 (.s 0 0) fun v52 =>
 brB v52 (
 k (.b false) h n) (
 cf 246 [a0] h n fun v53 h n =>
 jp (fun (s54 : VT [0, 3]) h n =>
 pc s54 fun v56 s57 =>
 pc s57 fun v58 s59 =>
 cf 247 [v56] h n fun v60 h n =>
 evExt 0 v60 fun v61 =>
 evExt 1 v60 fun v62 =>
 evAlloc tbx 303 h n fun v63 h n =>
 evStore tbx 303 v63 v61 h n fun _ h n =>
 evUn .not v62 fun v64 =>
 jp (fun (v65 : V) h n =>
 jp (fun (v67 : V) h n =>
 jp (fun (v69 : V) h n =>
 jp (fun (v71 : V) h n =>
 evPick v64 (.b true) v71 fun v73 =>
 brB v73 (
 k (.b false) h n) (
 evFa tbx 222 3 v58 fun v74 =>
 evLoad tbx 160 v74 h fun v75 =>
 evLoad tbx 303 v63 h fun v76 =>
 evBuildSl tbx 160 1 [(0, v76)] h n fun v77 h n =>
 evApp tbx 160 160 v75 v77 h n fun v78 h n =>
 evFa tbx 222 3 v58 fun v79 =>
 evStore tbx 160 v79 v78 h n fun _ h n =>
 lo2 (v56, v58, ()) h n)) fun kk72 =>
 gdB v64 false ((cf 248 [v67, v69] h n kk72)) (kk72 (.tp []) h n)) fun kk70 =>
 gdB v64 false (kk70 (.fn 249 [v63]) h n) (kk70 (.tp []) h n)) fun kk68 =>
 gdB v64 false ((evLoad tbx 160 v65 h fun v => kk68 v h n)) (kk68 (.tp []) h n)) fun kk66 =>
 gdB v64 false ((evFa tbx 222 3 v58 fun v => kk66 v h n)) (kk66 (.tp []) h n)) fun kk55 =>
 cf 196 [a0, (.s 1 62)] h n fun v80 h n =>
 brB v80 (
 evLoad tbx 222 v49 h fun v81 =>
 cf 244 [a0, v81] h n fun v82 h n =>
 k v82 h n) (
 cf 196 [a0, (.s 2 12094)] h n fun v83 h n =>
 brB v83 (
 evFa tbx 222 4 v49 fun v84 =>
 evStore tbx 4 v84 (.b true) h n fun _ h n =>
 evLoad tbx 222 v49 h fun v85 =>
 cf 244 [a0, v85] h n fun v86 h n =>
 k v86 h n) (
 evUn .not v53 fun v87 =>
 brB v87 (
 k (.b false) h n) (
 kk55 (a0, v49, ()) h n))))
noncomputable def e201 : FE := ⟨Tryz.f201, bd Tryz.f201, [0], [2], (.q .z (.g 0 [0, 3] [2] (.q .z (.q (.q .z (.c (.q .z .z) .z)) (.q .z (.q .z (.q (.b [0, 3] (.q .z (.c (.q .z .z) (.q .z (.c (.q .z (.q .z .z)) (.q .z (.c (.q .z .z) .z))))))) (.q .z (.q (.q .z (.c (.q .z .z) .z)) (.q .z .z)))))))) (.q .z (.q .z (.q (.b [0, 3] (.q .z (.c (.q .z .z) (.q .z (.c (.q .z (.q .z .z)) (.q .z (.c (.q .z .z) .z))))))) (.q .z (.q (.q .z (.c (.q .z .z) .z)) (.q .z .z))))))))⟩
theorem q201 (fu : Nat) (cf : CF) (a0 : V) (h : H) (n : Id) (k : KV) : evF fu cf e201 [a0] h n k = s201 fu cf a0 h n k := by kernel_rfl
theorem p201 : PfOk Tryz.prog tbx mtab 201 (w1 (s201 fuX)) := pfo e201 Tryz.func201 (by kernel_rfl) (w1_ok (q201 fuX))
noncomputable def s202 (fu : Nat) (cf : CF) (a0 : V) (h : H) (n : Id) (k : KV) : R :=
 evNc' a0 fun v1 =>
 evFa tbx 214 0 v1 fun v2 =>
 evLoad tbx 9 v2 h fun v3 =>
 cf 93 [v3, (.i .u8 60)] h n fun v4 h n =>
 jp (fun (s5 : VT [0, 3]) h n =>
 pc s5 fun v7 s8 =>
 pc s8 fun v9 s10 =>
 evNc' v7 fun v11 =>
 evFa tbx 214 0 v11 fun v12 =>
 evLoad tbx 9 v12 h fun v13 =>
 evSlc tbx 9 v13 none (some v9) fun v14 =>
 cf 250 [v14] h n fun v15 h n =>
 evExt 0 v15 fun v16 =>
 evExt 1 v15 fun v17 =>
 evNc' v7 fun v18 =>
 evFa tbx 214 0 v18 fun v19 =>
 evLoad tbx 9 v19 h fun v20 =>
 evSlc tbx 9 v20 (some v9) none fun v21 =>
 evNc' v7 fun v22 =>
 evFa tbx 214 0 v22 fun v23 =>
 evStore tbx 9 v23 v21 h n fun _ h n =>
 evBin2 tbx .eql 33 v17 (.i .i64 0) fun v24 =>
 jp (fun (v25 : V) h n =>
 jp (fun (v27 : V) h n =>
 jp (fun (v29 : V) h n =>
 jp (fun (v31 : V) h n =>
 evPick v24 v31 (.b false) fun v33 =>
 k v33 h n) fun kk32 =>
 gdB v24 true ((cf 244 [v25, v29] h n kk32)) (kk32 (.tp []) h n)) fun kk30 =>
 gdB v24 true ((evBuild tbx 222 [(0, (.i .i64 3)), (2, v27)] fun v => kk30 v h n)) (kk30 (.tp []) h n)) fun kk28 =>
 gdB v24 true (kk28 v16 h n) (kk28 (.tp []) h n)) fun kk26 =>
 gdB v24 true (kk26 v7 h n) (kk26 (.tp []) h n)) fun kk6 =>
 evBin2 tbx .lss 3 v4 (.i .i64 0) fun v34 =>
 brB v34 (
 evNc' a0 fun v35 =>
 evFa tbx 214 0 v35 fun v36 =>
 evLoad tbx 9 v36 h fun v37 =>
 evLen tbx 9 v37 fun v38 =>
 kk6 (a0, v38, ()) h n) (
 kk6 (a0, v4, ()) h n)
noncomputable def e202 : FE := ⟨Tryz.f202, bd Tryz.f202, [0], [2], (.q .z (.q .z (.s [0, 3] (.q .z (.c .z .z)) (.q .z (.q .z (.q .z .z))))))⟩
theorem q202 (fu : Nat) (cf : CF) (a0 : V) (h : H) (n : Id) (k : KV) : evF fu cf e202 [a0] h n k = s202 fu cf a0 h n k := by kernel_rfl
theorem p202 : PfOk Tryz.prog tbx mtab 202 (w1 (s202 fuX)) := pfo e202 Tryz.func202 (by kernel_rfl) (w1_ok (q202 fuX))
noncomputable def s203 (fu : Nat) (cf : CF) (a0 a1 : V) (h : H) (n : Id) (k : KV) : R :=
 evBox a1 h n fun v1 h n =>
 jp (fun (s2 : VT [0, 3]) h n =>
 pc s2 fun v4 s5 =>
 pc s5 fun v6 s7 =>
 evFa tbx 222 1 v6 fun v8 =>
 evLoad tbx 9 v8 h fun v9 =>
 evFa tbx 222 3 v6 fun v10 =>
 evLoad tbx 160 v10 h fun v11 =>
 evLoad tbx 9 v8 h fun w38 => cond (eqV 6 w38 v9) (
 evLoad tbx 160 v10 h fun w37 => cond (eqV 6 w37 v11) (
 cf 252 [v11] h n fun v12 h n =>
 evBuild tbx 162 [(1, v9), (3, v12)] fun v13 =>
 evLoad tbx 9 v8 h fun w36 => cond (eqV 6 w36 v9) (
 cf 251 [v4, v13] h n fun v14 h n =>
 evBin2 tbx .neq 33 v14 (.i .i64 0) fun v15 =>
 brB v15 (
 k v14 h n) (
 jp (fun (s16 : VT []) h n =>
 k (.i .i64 0) h n) fun kk17 =>
 evFa tbx 222 4 v6 fun v18 =>
 evLoad tbx 4 v18 h fun v19 =>
 evUn .not v19 fun v20 =>
 brB v20 (
 evNc' v4 fun v21 =>
 evFa tbx 219 1 v21 fun v22 =>
 evLoad tbx 149 v22 h fun v23 =>
 evNc' v4 fun v24 =>
 evFa tbx 219 0 v24 fun v25 =>
 evLoad tbx 114 v25 h fun v26 =>
 evLen tbx 114 v26 fun v27 =>
 evBin2 tbx .sub 3 v27 (.i .i64 1) fun v28 =>
 evLoad tbx 149 v22 h fun w35 => cond (eqV 6 w35 v23) (
 evLoad tbx 114 v25 h fun w34 => cond (eqV 6 w34 v26) (
 evBuildSl tbx 149 1 [(0, v28)] h n fun v29 h n =>
 evLoad tbx 149 v22 h fun w33 => cond (eqV 6 w33 v23) (
 evApp tbx 149 149 v23 v29 h n fun v30 h n =>
 evNc' v4 fun v31 =>
 evFa tbx 219 1 v31 fun v32 =>
 evStore tbx 149 v32 v30 h n fun _ h n =>
 kk17 (()) h n) none) none) none) (
 kk17 (()) h n))) none) none) none) fun kk3 =>
 evFa tbx 222 1 v1 fun v39 =>
 evLoad tbx 9 v39 h fun v40 =>
 evBin2 tbx .eql 9 v40 (.s 0 0) fun v41 =>
 brB v41 (
 k (.i .i64 5) h n) (
 evNc' a0 fun v42 =>
 evFa tbx 219 1 v42 fun v43 =>
 evLoad tbx 149 v43 h fun v44 =>
 evLen tbx 149 v44 fun v45 =>
 evBin2 tbx .eql 3 v45 (.i .i64 0) fun v46 =>
 jp (fun (v47 : V) h n =>
 jp (fun (v49 : V) h n =>
 jp (fun (v51 : V) h n =>
 jp (fun (v53 : V) h n =>
 jp (fun (v55 : V) h n =>
 jp (fun (v57 : V) h n =>
 evPick v46 v57 (.b false) fun v59 =>
 brB v59 (
 k (.i .i64 6) h n) (
 evNc' a0 fun v60 =>
 evFa tbx 219 1 v60 fun v61 =>
 evLoad tbx 149 v61 h fun v62 =>
 evLen tbx 149 v62 fun v63 =>
 evBin2 tbx .geq 3 v63 (.i .i64 20) fun v64 =>
 brB v64 (
 k (.i .i64 7) h n) (
 kk3 (a0, v1, ()) h n))) fun kk58 =>
 gdB v46 true ((evBin2 tbx .gtr 3 v55 (.i .i64 0) fun v => kk58 v h n)) (kk58 (.tp []) h n)) fun kk56 =>
 gdB v46 true ((evLen tbx 114 v53 fun v => kk56 v h n)) (kk56 (.tp []) h n)) fun kk54 =>
 gdB v46 true ((evLoad tbx 114 v51 h fun v => kk54 v h n)) (kk54 (.tp []) h n)) fun kk52 =>
 gdB v46 true ((evFa tbx 219 0 v49 fun v => kk52 v h n)) (kk52 (.tp []) h n)) fun kk50 =>
 gdB v46 true ((evNc' v47 fun v => kk50 v h n)) (kk50 (.tp []) h n)) fun kk48 =>
 gdB v46 true (kk48 a0 h n) (kk48 (.tp []) h n))
noncomputable def e203 : FE := ⟨Tryz.f203, bd Tryz.f203, [0, 1], [4], (.q .z (.q (.b [0, 3] (.q .z (.c (.q .z .z) (.q .z (.c (.q .z .z) (.q .z (.c (.q .z .z) .z))))))) (.q (.q .z (.q .z (.c (.q .z .z) .z))) (.s [] (.q .z (.c .z .z)) (.q .z .z)))))⟩
theorem q203 (fu : Nat) (cf : CF) (a0 a1 : V) (h : H) (n : Id) (k : KV) : evF fu cf e203 [a0, a1] h n k = s203 fu cf a0 a1 h n k := by kernel_rfl
theorem p203 : PfOk Tryz.prog tbx mtab 203 (w2 (s203 fuX)) := pfo e203 Tryz.func203 (by kernel_rfl) (w2_ok (q203 fuX))
noncomputable def s204 (fu : Nat) (cf : CF) (a0 a1 : V) (h : H) (n : Id) (k : KV) : R :=
 evBox a1 h n fun v1 h n =>
 cf 253 [a0] h n fun v2 h n =>
 evBin2 tbx .lss 3 v2 (.i .i64 0) fun v3 =>
 jp (fun (v4 : V) h n =>
 jp (fun (v6 : V) h n =>
 jp (fun (v8 : V) h n =>
 jp (fun (v10 : V) h n =>
 jp (fun (v12 : V) h n =>
 jp (fun (v14 : V) h n =>
 jp (fun (v16 : V) h n =>
 jp (fun (v18 : V) h n =>
 jp (fun (v20 : V) h n =>
 jp (fun (v22 : V) h n =>
 jp (fun (v24 : V) h n =>
 evPick v3 (.b true) v24 fun v26 =>
 thenR (wsB (wV v3 false) (evLoad tbx 114 v8 h fun w27 => cond (eqV 6 w27 v10) (okR) none) (cond (eqV 2 v10 (.tp [])) okR none)) (
 thenR (wsB (wV v3 false) (evLoad tbx 9 v16 h fun w28 => cond (eqV 6 w28 v18) (okR) none) (cond (eqV 2 v18 (.tp [])) okR none)) (
 thenR (wsB (wV v3 false) (evLoad tbx 9 v20 h fun w29 => cond (eqV 6 w29 v22) (okR) none) (cond (eqV 2 v22 (.tp [])) okR none)) (
 brB v26 (
 k (.i .i64 6) h n) (
 evNc' a0 fun v30 =>
 evFa tbx 219 1 v30 fun v31 =>
 evLoad tbx 149 v31 h fun v32 =>
 evNc' a0 fun v33 =>
 evFa tbx 219 1 v33 fun v34 =>
 evLoad tbx 149 v34 h fun v35 =>
 evLen tbx 149 v35 fun v36 =>
 evBin2 tbx .sub 3 v36 (.i .i64 1) fun v37 =>
 evSlc tbx 149 v32 none (some v37) fun v38 =>
 evNc' a0 fun v39 =>
 evFa tbx 219 1 v39 fun v40 =>
 evLoad tbx 149 v31 h fun w42 => cond (eqV 6 w42 v32) (
 evLoad tbx 149 v34 h fun w41 => cond (eqV 6 w41 v35) (
 evStore tbx 149 v40 v38 h n fun _ h n =>
 k (.i .i64 0) h n) none) none))))) fun kk25 =>
 wsB (wV v3 false) ((evBin2 tbx .neq 9 v18 v22 fun v => kk25 v h n)) (kk25 (.tp []) h n)) fun kk23 =>
 wsB (wV v3 false) ((evLoad tbx 9 v20 h fun v => kk23 v h n)) (kk23 (.tp []) h n)) fun kk21 =>
 wsB (wV v3 false) ((evFa tbx 222 1 v1 fun v => kk21 v h n)) (kk21 (.tp []) h n)) fun kk19 =>
 wsB (wV v3 false) ((evLoad tbx 9 v16 h fun v => kk19 v h n)) (kk19 (.tp []) h n)) fun kk17 =>
 wsB (wV v3 false) ((evFa tbx 162 1 v14 fun v => kk17 v h n)) (kk17 (.tp []) h n)) fun kk15 =>
 wsB (wV v3 false) ((evIa tbx 114 v10 v12 fun v => kk15 v h n)) (kk15 (.tp []) h n)) fun kk13 =>
 wsB (wV v3 false) (kk13 v2 h n) (kk13 (.tp []) h n)) fun kk11 =>
 wsB (wV v3 false) ((evLoad tbx 114 v8 h fun v => kk11 v h n)) (kk11 (.tp []) h n)) fun kk9 =>
 wsB (wV v3 false) ((evFa tbx 219 0 v6 fun v => kk9 v h n)) (kk9 (.tp []) h n)) fun kk7 =>
 wsB (wV v3 false) ((evNc' v4 fun v => kk7 v h n)) (kk7 (.tp []) h n)) fun kk5 =>
 wsB (wV v3 false) (kk5 a0 h n) (kk5 (.tp []) h n)
noncomputable def e204 : FE := ⟨Tryz.f204, bd Tryz.f204, [0, 1], [4], (.q .z (.q .z (.q (.q .z (.c (.q .z .z) .z)) (.q .z (.q .z .z)))))⟩
theorem q204 (fu : Nat) (cf : CF) (a0 a1 : V) (h : H) (n : Id) (k : KV) : evF fu cf e204 [a0, a1] h n k = s204 fu cf a0 a1 h n k := by kernel_rfl
theorem p204 : PfOk Tryz.prog tbx mtab 204 (w2 (s204 fuX)) := pfo e204 Tryz.func204 (by kernel_rfl) (w2_ok (q204 fuX))
noncomputable def s205 (fu : Nat) (cf : CF) (a0 a1 : V) (h : H) (n : Id) (k : KV) : R :=
 cf 253 [a0] h n fun v1 h n =>
 evBin2 tbx .lss 3 v1 (.i .i64 0) fun v2 =>
 brB v2 (
 cf 210 [a1] h n fun v3 h n =>
 evBin2 tbx .neq 9 v3 (.s 0 0) fun v4 =>
 brB v4 (
 k (.i .i64 6) h n) (
 k (.i .i64 0) h n)) (
 evBin2 tbx .eql 9 a1 (.s 0 0) fun v5 =>
 brB v5 (
 k (.i .i64 0) h n) (
 evNc' a0 fun v6 =>
 evFa tbx 219 2 v6 fun v7 =>
 evLoad tbx 217 v7 h fun v8 =>
 evLook tbx mtab 217 v8 v1 true h fun v9 =>
 evExt 0 v9 fun v10 =>
 evExt 1 v9 fun v11 =>
 jp (fun (v12 : V) h n =>
 jp (fun (v14 : V) h n =>
 jp (fun (v16 : V) h n =>
 jp (fun (v18 : V) h n =>
 jp (fun (v20 : V) h n =>
 jp (fun (v22 : V) h n =>
 jp (fun (v24 : V) h n =>
 jp (fun (v26 : V) h n =>
 jp (fun (v28 : V) h n =>
 evPick v11 v28 (.b false) fun v30 =>
 brB v30 (
 evNc' a0 fun v31 =>
 evFa tbx 219 0 v31 fun v32 =>
 evLoad tbx 114 v32 h fun v33 =>
 evIa tbx 114 v33 v10 fun v34 =>
 evFa tbx 162 2 v34 fun v35 =>
 evLoad tbx 9 v35 h fun v36 =>
 evBin2 tbx .add 9 v36 a1 fun v37 =>
 evIa tbx 114 v33 v10 fun v38 =>
 evFa tbx 162 2 v38 fun v39 =>
 evStore tbx 9 v39 v37 h n fun _ h n =>
 k (.i .i64 0) h n) (
 evBuild tbx 162 [(2, a1)] fun v40 =>
 cf 251 [a0, v40] h n fun v41 h n =>
 k v41 h n)) fun kk29 =>
 gdB v11 true ((evBin2 tbx .eql 9 v26 (.s 0 0) fun v => kk29 v h n)) (kk29 (.tp []) h n)) fun kk27 =>
 gdB v11 true ((evLoad tbx 9 v24 h fun v => kk27 v h n)) (kk27 (.tp []) h n)) fun kk25 =>
 gdB v11 true ((evFa tbx 162 1 v22 fun v => kk25 v h n)) (kk25 (.tp []) h n)) fun kk23 =>
 gdB v11 true ((evIa tbx 114 v18 v20 fun v => kk23 v h n)) (kk23 (.tp []) h n)) fun kk21 =>
 gdB v11 true (kk21 v10 h n) (kk21 (.tp []) h n)) fun kk19 =>
 gdB v11 true ((evLoad tbx 114 v16 h fun v => kk19 v h n)) (kk19 (.tp []) h n)) fun kk17 =>
 gdB v11 true ((evFa tbx 219 0 v14 fun v => kk17 v h n)) (kk17 (.tp []) h n)) fun kk15 =>
 gdB v11 true ((evNc' v12 fun v => kk15 v h n)) (kk15 (.tp []) h n)) fun kk13 =>
 gdB v11 true (kk13 a0 h n) (kk13 (.tp []) h n)))
noncomputable def e205 : FE := ⟨Tryz.f205, bd Tryz.f205, [0, 1], [4], (.q .z (.q .z (.q (.q .z (.c (.q (.q .z (.c (.q .z .z) .z)) (.q .z .z)) .z)) (.q (.q .z (.c (.q .z .z) .z)) (.q (.q .z (.q .z (.c (.q .z (.q .z .z)) .z))) (.q .z .z))))))⟩
theorem q205 (fu : Nat) (cf : CF) (a0 a1 : V) (h : H) (n : Id) (k : KV) : evF fu cf e205 [a0, a1] h n k = s205 fu cf a0 a1 h n k := by kernel_rfl
theorem p205 : PfOk Tryz.prog tbx mtab 205 (w2 (s205 fuX)) := pfo e205 Tryz.func205 (by kernel_rfl) (w2_ok (q205 fuX))
noncomputable def s206 (fu : Nat) (cf : CF) (a0 : V) (h : H) (n : Id) (k : KV) : R :=
 evConv2 tbx mtab 9 73 a0 h n fun v1 h n =>
 cf 91 [v1, (.fn 254 [])] h n fun v2 h n =>
 evUn .not v2 fun v3 =>
 k v3 h n
noncomputable def e206 : FE := ⟨Tryz.f206, bd Tryz.f206, [0], [2], (.q .z (.q .z .z))⟩
theorem q206 (fu : Nat) (cf : CF) (a0 : V) (h : H) (n : Id) (k : KV) : evF fu cf e206 [a0] h n k = s206 fu cf a0 h n k := by kernel_rfl
theorem p206 : PfOk Tryz.prog tbx mtab 206 (w1 (s206 fuX)) := pfo e206 Tryz.func206 (by kernel_rfl) (w1_ok (q206 fuX))
noncomputable def s207 (fu : Nat) (cf : CF) (a0 : V) (h : H) (n : Id) (k : KV) : R :=
 evBin2 tbx .neq 9 a0 (.s 0 0) fun v1 =>
 jp (fun (v2 : V) h n =>
 jp (fun (v4 : V) h n =>
 jp (fun (v6 : V) h n =>
 jp (fun (v8 : V) h n =>
 evPick v1 v8 (.b false) fun v10 =>
 k v10 h n) fun kk9 =>
 gdB v1 true ((evBin2 tbx .eql 9 v4 v6 fun v => kk9 v h n)) (kk9 (.tp []) h n)) fun kk7 =>
 gdB v1 true (kk7 a0 h n) (kk7 (.tp []) h n)) fun kk5 =>
 gdB v1 true ((cf 255 [v2] h n kk5)) (kk5 (.tp []) h n)) fun kk3 =>
 gdB v1 true (kk3 a0 h n) (kk3 (.tp []) h n)
noncomputable def e207 : FE := ⟨Tryz.f207, bd Tryz.f207, [0], [2], (.q .z (.q .z .z))⟩
theorem q207 (fu : Nat) (cf : CF) (a0 : V) (h : H) (n : Id) (k : KV) : evF fu cf e207 [a0] h n k = s207 fu cf a0 h n k := by kernel_rfl
theorem p207 : PfOk Tryz.prog tbx mtab 207 (w1 (s207 fuX)) := pfo e207 Tryz.func207 (by kernel_rfl) (w1_ok (q207 fuX))
noncomputable def s208 (fu : Nat) (cf : CF) (a0 : V) (h : H) (n : Id) (k : KV) : R :=
 evMkMap h n fun v1 h n =>
 evLen tbx 160 a0 fun v2 =>
 jp (fun (s3 : VT []) h n =>
 k (.b true) h n) fun kk4 =>
 lpC [3, 7, 8, 9] (fun lo6 s5 h n =>
 pc s5 fun v7 s8 =>
 pc s8 fun v9 s10 =>
 pc s10 fun v11 s12 =>
 pc s12 fun v13 s14 =>
 evBin2 tbx .lss 3 v13 v11 fun v15 =>
 brB v15 (
 jp (fun (s16 : VT [3, 7, 8, 9]) h n =>
 pc s16 fun v18 s19 =>
 pc s19 fun v20 s21 =>
 pc s21 fun v22 s23 =>
 pc s23 fun v24 s25 =>
 evBin2 tbx .add 3 v24 (.i .i64 1) fun v26 =>
 lo6 (v18, v20, v22, v26, ()) h n) fun kk17 =>
 evIa tbx 160 v9 v13 fun v27 =>
 evLoad tbx 303 v27 h fun v28 =>
 evAlloc tbx 303 h n fun v29 h n =>
 evStore tbx 303 v29 v28 h n fun _ h n =>
 evFa tbx 303 0 v29 fun v30 =>
 evLoad tbx 9 v30 h fun v31 =>
 cf 207 [v31] h n fun v32 h n =>
 evUn .not v32 fun v33 =>
 jp (fun (v34 : V) h n =>
 jp (fun (v36 : V) h n =>
 jp (fun (v38 : V) h n =>
 jp (fun (v40 : V) h n =>
 evPick v33 (.b true) v40 fun v42 =>
 jp (fun (v43 : V) h n =>
 jp (fun (v45 : V) h n =>
 jp (fun (v47 : V) h n =>
 jp (fun (v49 : V) h n =>
 evPick v42 (.b true) v49 fun v51 =>
 brB v51 (
 k (.b false) h n) (
 evFa tbx 303 0 v29 fun v52 =>
 evLoad tbx 9 v52 h fun v53 =>
 evMapUpd mtab 227 v7 v53 (.b true) h n fun _ h n =>
 kk17 (v7, v9, v11, v13, ()) h n)) fun kk50 =>
 gdB v42 false ((evUn .not v47 fun v => kk50 v h n)) (kk50 (.tp []) h n)) fun kk48 =>
 gdB v42 false ((cf 206 [v45] h n kk48)) (kk48 (.tp []) h n)) fun kk46 =>
 gdB v42 false ((evLoad tbx 9 v43 h fun v => kk46 v h n)) (kk46 (.tp []) h n)) fun kk44 =>
 gdB v42 false ((evFa tbx 303 1 v29 fun v => kk44 v h n)) (kk44 (.tp []) h n)) fun kk41 =>
 gdB v33 false ((evLook tbx mtab 227 v34 v38 false h fun v => kk41 v h n)) (kk41 (.tp []) h n)) fun kk39 =>
 gdB v33 false ((evLoad tbx 9 v36 h fun v => kk39 v h n)) (kk39 (.tp []) h n)) fun kk37 =>
 gdB v33 false ((evFa tbx 303 0 v29 fun v => kk37 v h n)) (kk37 (.tp []) h n)) fun kk35 =>
 gdB v33 false (kk35 v7 h n) (kk35 (.tp []) h n)) (
 kk4 (()) h n)) fu (v1, a0, v2, (.i .i64 0), ()) h n
noncomputable def e208 : FE := ⟨Tryz.f208, bd Tryz.f208, [0], [2], (.q .z (.q .z (.q (.q .z (.b [] (.l [3, 7, 8, 9] (.q .z (.q (.c .z .z) (.q (.b [3, 7, 8, 9] (.q .z (.q (.q .z (.c (.q .z .z) .z)) .z))) .z)))))) (.q .z .z))))⟩
theorem q208 (fu : Nat) (cf : CF) (a0 : V) (h : H) (n : Id) (k : KV) : evF fu cf e208 [a0] h n k = s208 fu cf a0 h n k := by kernel_rfl
theorem p208 : PfOk Tryz.prog tbx mtab 208 (w1 (s208 fuX)) := pfo e208 Tryz.func208 (by kernel_rfl) (w1_ok (q208 fuX))
noncomputable def s209 (fu : Nat) (cf : CF) (a0 a1 : V) (h : H) (n : Id) (k : KV) : R :=
 evLen tbx 224 a0 fun v1 =>
 jp (fun (s2 : VT []) h n =>
 k (.i .i64 (-1)) h n) fun kk3 =>
 lpC [0, 1, 7, 8] (fun lo5 s4 h n =>
 pc s4 fun v6 s7 =>
 pc s7 fun v8 s9 =>
 pc s9 fun v10 s11 =>
 pc s11 fun v12 s13 =>
 evBin2 tbx .lss 3 v12 v10 fun v14 =>
 brB v14 (
 jp (fun (s15 : VT [0, 1, 7, 8]) h n =>
 pc s15 fun v17 s18 =>
 pc s18 fun v19 s20 =>
 pc s20 fun v21 s22 =>
 pc s22 fun v23 s24 =>
 evBin2 tbx .add 3 v23 (.i .i64 1) fun v25 =>
 lo5 (v17, v19, v21, v25, ()) h n) fun kk16 =>
 evIa tbx 224 v6 v12 fun v26 =>
 evLoad tbx 3 v26 h fun v27 =>
 evBin2 tbx .eql 3 v8 v27 fun v28 =>
 brB v28 (
 k v12 h n) (
 kk16 (v6, v8, v10, v12, ()) h n)) (
 kk3 (()) h n)) fu (a0, a1, v1, (.i .i64 0), ()) h n
noncomputable def e209 : FE := ⟨Tryz.f209, bd Tryz.f209, [0, 1], [4], (.q .z (.q (.q .z (.b [] (.l [0, 1, 7, 8] (.q .z (.q (.c .z .z) (.q (.b [0, 1, 7, 8] (.q .z (.q .z (.c (.q .z .z) .z)))) .z)))))) (.q .z .z)))⟩
theorem q209 (fu : Nat) (cf : CF) (a0 a1 : V) (h : H) (n : Id) (k : KV) : evF fu cf e209 [a0, a1] h n k = s209 fu cf a0 a1 h n k := by kernel_rfl
theorem p209 : PfOk Tryz.prog tbx mtab 209 (w2 (s209 fuX)) := pfo e209 Tryz.func209 (by kernel_rfl) (w2_ok (q209 fuX))
noncomputable def s210 (fu : Nat) (cf : CF) (a0 : V) (h : H) (n : Id) (k : KV) : R :=
 jp (fun (s1 : VT [0]) h n =>
 pc s1 fun v3 s4 =>
 jp (fun (s5 : VT [0]) h n =>
 pc s5 fun v7 s8 =>
 k v7 h n) fun kk6 =>
 lpC [0] (fun lo10 s9 h n =>
 pc s9 fun v11 s12 =>
 evBin2 tbx .neq 9 v11 (.s 0 0) fun v13 =>
 jp (fun (v14 : V) h n =>
 jp (fun (v16 : V) h n =>
 jp (fun (v18 : V) h n =>
 jp (fun (v20 : V) h n =>
 jp (fun (v22 : V) h n =>
 jp (fun (v24 : V) h n =>
 evPick v13 v24 (.b false) fun v26 =>
 brB v26 (
 jp (fun (s27 : VT [0]) h n =>
 pc s27 fun v29 s30 =>
 lo10 (v29, ()) h n) fun kk28 =>
 evLen tbx 9 v11 fun v31 =>
 evBin2 tbx .sub 3 v31 (.i .i64 1) fun v32 =>
 evSlc tbx 9 v11 none (some v32) fun v33 =>
 kk28 (v33, ()) h n) (
 kk6 (v11, ()) h n)) fun kk25 =>
 gdB v13 true ((cf 195 [v22] h n kk25)) (kk25 (.tp []) h n)) fun kk23 =>
 gdB v13 true ((evIx tbx 9 v14 v20 fun v => kk23 v h n)) (kk23 (.tp []) h n)) fun kk21 =>
 gdB v13 true ((evBin2 tbx .sub 3 v18 (.i .i64 1) fun v => kk21 v h n)) (kk21 (.tp []) h n)) fun kk19 =>
 gdB v13 true ((evLen tbx 9 v16 fun v => kk19 v h n)) (kk19 (.tp []) h n)) fun kk17 =>
 gdB v13 true (kk17 v11 h n) (kk17 (.tp []) h n)) fun kk15 =>
 gdB v13 true (kk15 v11 h n) (kk15 (.tp []) h n)) fu (v3, ()) h n) fun kk2 =>
 lpC [0] (fun lo35 s34 h n =>
 pc s34 fun v36 s37 =>
 evBin2 tbx .neq 9 v36 (.s 0 0) fun v38 =>
 jp (fun (v39 : V) h n =>
 jp (fun (v41 : V) h n =>
 jp (fun (v43 : V) h n =>
 evPick v38 v43 (.b false) fun v45 =>
 brB v45 (
 jp (fun (s46 : VT [0]) h n =>
 pc s46 fun v48 s49 =>
 lo35 (v48, ()) h n) fun kk47 =>
 evSlc tbx 9 v36 (some (.i .i64 1)) none fun v50 =>
 kk47 (v50, ()) h n) (
 kk2 (v36, ()) h n)) fun kk44 =>
 gdB v38 true ((cf 195 [v41] h n kk44)) (kk44 (.tp []) h n)) fun kk42 =>
 gdB v38 true ((evIx tbx 9 v39 (.i .i64 0) fun v => kk42 v h n)) (kk42 (.tp []) h n)) fun kk40 =>
 gdB v38 true (kk40 v36 h n) (kk40 (.tp []) h n)) fu (a0, ()) h n
noncomputable def e210 : FE := ⟨Tryz.f210, bd Tryz.f210, [0], [2], (.q .z (.q (.b [0] (.l [0] (.q (.q .z (.c .z .z)) (.b [0] .z)))) (.q (.b [0] (.l [0] (.q (.q .z (.c .z .z)) (.b [0] .z)))) (.q .z .z))))⟩
theorem q210 (fu : Nat) (cf : CF) (a0 : V) (h : H) (n : Id) (k : KV) : evF fu cf e210 [a0] h n k = s210 fu cf a0 h n k := by kernel_rfl
theorem p210 : PfOk Tryz.prog tbx mtab 210 (w1 (s210 fuX)) := pfo e210 Tryz.func210 (by kernel_rfl) (w1_ok (q210 fuX))
noncomputable def s211 (fu : Nat) (cf : CF) (a0 a1 : V) (h : H) (n : Id) (k : KV) : R :=
 evAlloc tbx 314 h n fun v1 h n =>
 cf 256 [a0, a1] h n fun v2 h n =>
 evLen tbx 149 v2 fun v3 =>
 jp (fun (s4 : VT [5]) h n =>
 pc s4 fun v6 s7 =>
 cf 258 [v6] h n fun v8 h n =>
 k v8 h n) fun kk5 =>
 lpC [0, 5, 10, 11, 12] (fun lo10 s9 h n =>
 pc s9 fun v11 s12 =>
 pc s12 fun v13 s14 =>
 pc s14 fun v15 s16 =>
 pc s16 fun v17 s18 =>
 pc s18 fun v19 s20 =>
 evBin2 tbx .lss 3 v19 v17 fun v21 =>
 brB v21 (
 jp (fun (s22 : VT [0, 5, 10, 11, 12]) h n =>
 pc s22 fun v24 s25 =>
 pc s25 fun v26 s27 =>
 pc s27 fun v28 s29 =>
 pc s29 fun v30 s31 =>
 pc s31 fun v32 s33 =>
 evBin2 tbx .add 3 v32 (.i .i64 1) fun v34 =>
 lo10 (v24, v26, v28, v30, v34, ()) h n) fun kk23 =>
 evIa tbx 149 v15 v19 fun v35 =>
 evLoad tbx 3 v35 h fun v36 =>
 evIa tbx 114 v11 v36 fun v37 =>
 evFa tbx 162 1 v37 fun v38 =>
 evLoad tbx 9 v38 h fun v39 =>
 evBin2 tbx .eql 9 v39 (.s 0 0) fun v40 =>
 brB v40 (
 evIa tbx 114 v11 v36 fun v41 =>
 evFa tbx 162 2 v41 fun v42 =>
 evLoad tbx 9 v42 h fun v43 =>
 cf 257 [v13, v43] h n fun v44 h n =>
 kk23 (v11, v13, v15, v17, v19, ()) h n) (
 kk23 (v11, v13, v15, v17, v19, ()) h n)) (
 kk5 (v13, ()) h n)) fu (a0, v1, v2, v3, (.i .i64 0), ()) h n
noncomputable def e211 : FE := ⟨Tryz.f211, bd Tryz.f211, [0, 1], [4], (.q .z (.q .z (.q (.q .z (.b [5] (.l [0, 5, 10, 11, 12] (.q .z (.q (.c .z .z) (.q (.b [0, 5, 10, 11, 12] (.q .z (.q .z (.c .z .z)))) .z)))))) (.q .z .z))))⟩
theorem q211 (fu : Nat) (cf : CF) (a0 a1 : V) (h : H) (n : Id) (k : KV) : evF fu cf e211 [a0, a1] h n k = s211 fu cf a0 a1 h n k := by kernel_rfl
theorem p211 : PfOk Tryz.prog tbx mtab 211 (w2 (s211 fuX)) := pfo e211 Tryz.func211 (by kernel_rfl) (w2_ok (q211 fuX))
noncomputable def s212 (fu : Nat) (cf : CF) (a0 a1 a2 a3 a4 a5 : V) (h : H) (n : Id) (k : KV) : R :=
 evLoad tbx 163 a1 h fun v1 =>
 evNc' v1 fun v2 =>
 evFa tbx 166 0 v2 fun v3 =>
 evLoad tbx 114 v3 h fun v4 =>
 evIa tbx 114 v4 a0 fun v5 =>
 evFa tbx 162 1 v5 fun v6 =>
 evLoad tbx 9 v6 h fun v7 =>
 evLoad tbx 9 a2 h fun v8 =>
 evBin2 tbx .neq 9 v7 v8 fun v9 =>
 evLoad tbx 163 a1 h fun w20 => cond (eqV 6 w20 v1) (
 evLoad tbx 114 v3 h fun w19 => cond (eqV 6 w19 v4) (
 evLoad tbx 9 v6 h fun w18 => cond (eqV 6 w18 v7) (
 evLoad tbx 9 a2 h fun w17 => cond (eqV 6 w17 v8) (
 brB v9 (
 k (.i .i64 0) h n) (
 evLoad tbx 3 a3 h fun v10 =>
 evBin2 tbx .add 3 v10 (.i .i64 1) fun v11 =>
 evStore tbx 3 a3 v11 h n fun _ h n =>
 evLoad tbx 3 a3 h fun v12 =>
 evLoad tbx 3 a4 h fun v13 =>
 evBin2 tbx .gtr 3 v12 v13 fun v14 =>
 brB v14 (
 k (.i .i64 3) h n) (
 evLoad tbx 104 a5 h fun v15 =>
 evCall cf v15 [a0] h n fun v16 h n =>
 k v16 h n))) none) none) none) none
noncomputable def e212 : FE := ⟨Tryz.f212, bd Tryz.f212, [0, 1, 2, 3, 4, 5], [7], (.q .z (.q (.q .z (.c (.q .z .z) .z)) (.q .z (.q (.q .z (.c (.q .z .z) .z)) (.q .z .z)))))⟩
theorem q212 (fu : Nat) (cf : CF) (a0 a1 a2 a3 a4 a5 : V) (h : H) (n : Id) (k : KV) : evF fu cf e212 [a0, a1, a2, a3, a4, a5] h n k = s212 fu cf a0 a1 a2 a3 a4 a5 h n k := by kernel_rfl
theorem p212 : PfOk Tryz.prog tbx mtab 212 (w6 (s212 fuX)) := pfo e212 Tryz.func212 (by kernel_rfl) (w6_ok (q212 fuX))
noncomputable def s213 (fu : Nat) (cf : CF) (a0 a1 a2 : V) (h : H) (n : Id) (k : KV) : R :=
 evLoad tbx 163 a1 h fun v1 =>
 cf 148 [v1, a0] h n fun v2 h n =>
 evExt 0 v2 fun v3 =>
 evExt 1 v2 fun v4 =>
 jp (fun (s5 : VT [2, 5, 6]) h n =>
 pc s5 fun v7 s8 =>
 pc s8 fun v9 s10 =>
 pc s10 fun v11 s12 =>
 evLoad tbx 233 v7 h fun v13 =>
 evBin2 tbx .eql 9 v9 (.s 4 1953658213) fun v14 =>
 evNc' v13 fun v15 =>
 evStore tbx 4 v15 v14 h n fun _ h n =>
 k v11 h n) fun kk6 =>
 evBin2 tbx .eql 33 v4 (.i .i64 0) fun v16 =>
 jp (fun (v17 : V) h n =>
 jp (fun (v19 : V) h n =>
 evPick v16 v19 (.b false) fun v21 =>
 jp (fun (v22 : V) h n =>
 jp (fun (v24 : V) h n =>
 evPick v21 v24 (.b false) fun v26 =>
 jp (fun (v27 : V) h n =>
 jp (fun (v29 : V) h n =>
 evPick v26 v29 (.b false) fun v31 =>
 brB v31 (
 kk6 (a2, v3, (.i .i64 10), ()) h n) (
 kk6 (a2, v3, v4, ()) h n)) fun kk30 =>
 gdB v26 true ((evBin2 tbx .neq 9 v27 (.s 5 439721161573) fun v => kk30 v h n)) (kk30 (.tp []) h n)) fun kk28 =>
 gdB v26 true (kk28 v3 h n) (kk28 (.tp []) h n)) fun kk25 =>
 gdB v21 true ((evBin2 tbx .neq 9 v22 (.s 4 1953658213) fun v => kk25 v h n)) (kk25 (.tp []) h n)) fun kk23 =>
 gdB v21 true (kk23 v3 h n) (kk23 (.tp []) h n)) fun kk20 =>
 gdB v16 true ((evBin2 tbx .neq 9 v17 (.s 0 0) fun v => kk20 v h n)) (kk20 (.tp []) h n)) fun kk18 =>
 gdB v16 true (kk18 v3 h n) (kk18 (.tp []) h n)
noncomputable def e213 : FE := ⟨Tryz.f213, bd Tryz.f213, [0, 1, 2], [4], (.q .z (.q .z (.s [2, 5, 6] (.q .z (.c .z .z)) (.q .z (.q .z .z)))))⟩
theorem q213 (fu : Nat) (cf : CF) (a0 a1 a2 : V) (h : H) (n : Id) (k : KV) : evF fu cf e213 [a0, a1, a2] h n k = s213 fu cf a0 a1 a2 h n k := by kernel_rfl
theorem p213 : PfOk Tryz.prog tbx mtab 213 (w3 (s213 fuX)) := pfo e213 Tryz.func213 (by kernel_rfl) (w3_ok (q213 fuX))
noncomputable def s214 (fu : Nat) (cf : CF) (a0 a1 a2 : V) (h : H) (n : Id) (k : KV) : R :=
 evLoad tbx 163 a1 h fun v1 =>
 let v2 : V := (.fn 215 [a1, a2])
 cf 154 [v1, a0, (.s 9 1871796048003613683566), (.i .i64 50), v2] h n fun v3 h n =>
 k v3 h n
noncomputable def e214 : FE := ⟨Tryz.f214, bd Tryz.f214, [0, 1, 2], [4], (.q .z (.q .z .z))⟩
theorem q214 (fu : Nat) (cf : CF) (a0 a1 a2 : V) (h : H) (n : Id) (k : KV) : evF fu cf e214 [a0, a1, a2] h n k = s214 fu cf a0 a1 a2 h n k := by kernel_rfl
theorem p214 : PfOk Tryz.prog tbx mtab 214 (w3 (s214 fuX)) := pfo e214 Tryz.func214 (by kernel_rfl) (w3_ok (q214 fuX))
noncomputable def s215 (fu : Nat) (cf : CF) (a0 a1 a2 : V) (h : H) (n : Id) (k : KV) : R :=
 evAlloc tbx 63 h n fun v1 h n =>
 evLoad tbx 163 a1 h fun v2 =>
 evLoad tbx 163 a1 h fun v3 =>
 evFa tbx 63 0 v1 fun v4 =>
 evLoad tbx 163 a1 h fun v5 =>
 evFa tbx 63 1 v1 fun v6 =>
 evLoad tbx 163 a1 h fun w38 => cond (eqV 6 w38 v2) (
 evLoad tbx 163 a1 h fun w37 => cond (eqV 6 w37 v3) (
 evLoad tbx 163 a1 h fun w36 => cond (eqV 6 w36 v5) (
 cf 99 [v3, v4] h n fun v7 h n =>
 evLoad tbx 163 a1 h fun w35 => cond (eqV 6 w35 v2) (
 evLoad tbx 163 a1 h fun w34 => cond (eqV 6 w34 v5) (
 cf 99 [v5, v6] h n fun v8 h n =>
 alB n fun n' => litA [((.s 7 29117745638426980), v7), ((.s 10 460180866011107895298404), v8)] fun x mk => 
 (fun (v9 : V) h n =>
 evLoad tbx 163 a1 h fun w33 => cond (eqV 6 w33 v2) (
 ckO (vId v9) h fun id x' => litA [((.s 7 29117745638426980), v7), ((.s 10 460180866011107895298404), v8)] fun x mk => cond (eqO x' x) (cond (eqV 6 (mk id) v9) (
 cf 98 [v2, a0, v9] h n fun v10 h n =>
 evLoad tbx 235 a2 h fun v11 =>
 evLoad tbx 235 a2 h fun v12 =>
 evNc' v12 fun v13 =>
 evLoad tbx 49 v13 h fun v14 =>
 evLoad tbx 63 v1 h fun v15 =>
 evLoad tbx 235 a2 h fun w32 => cond (eqV 6 w32 v11) (
 evLoad tbx 235 a2 h fun w31 => cond (eqV 6 w31 v12) (
 evLoad tbx 49 v13 h fun w30 => cond (eqV 6 w30 v14) (
 evLoad tbx 63 v1 h fun w29 => cond (eqV 6 w29 v15) (
 evBuildSl tbx 49 1 [(0, v15)] h n fun v16 h n =>
 evLoad tbx 235 a2 h fun w28 => cond (eqV 6 w28 v11) (
 evLoad tbx 235 a2 h fun w27 => cond (eqV 6 w27 v12) (
 evLoad tbx 49 v13 h fun w26 => cond (eqV 6 w26 v14) (
 evApp tbx 49 49 v14 v16 h n fun v17 h n =>
 evNc' v11 fun v18 =>
 evLoad tbx 235 a2 h fun w25 => cond (eqV 6 w25 v11) (
 evStore tbx 49 v18 v17 h n fun _ h n =>
 evFa tbx 63 0 v1 fun v19 =>
 evLoad tbx 9 v19 h fun v20 =>
 evFa tbx 63 1 v1 fun v21 =>
 evLoad tbx 9 v21 h fun v22 =>
 evBuildSl tbx 71 2 [(0, v20), (1, v22)] h n fun v23 h n =>
 cf 104 [v10, v23] h n fun v24 h n =>
 k v24 h n) none) none) none) none) none) none) none) none) none) none) none) (mk n) (hset x n h) n') none) none) none) none) none
noncomputable def e215 : FE := ⟨Tryz.f215, bd Tryz.f215, [0, 1, 2], [4], (.q .z (.q .z (.q .z (.q .z (.q .z .z)))))⟩
theorem q215 (fu : Nat) (cf : CF) (a0 a1 a2 : V) (h : H) (n : Id) (k : KV) : evF fu cf e215 [a0, a1, a2] h n k = s215 fu cf a0 a1 a2 h n k := by kernel_rfl
theorem p215 : PfOk Tryz.prog tbx mtab 215 (w3 (s215 fuX)) := pfo e215 Tryz.func215 (by kernel_rfl) (w3_ok (q215 fuX))
noncomputable def s216 (fu : Nat) (cf : CF) (a0 : V) (h : H) (n : Id) (k : KV) : R :=
 evMkMap h n fun v1 h n =>
 evLen tbx 29 a0 fun v2 =>
 jp (fun (s3 : VT [4]) h n =>
 pc s3 fun v5 s6 =>
 cf 259 [v5, (.fn 260 [])] h n fun v7 h n =>
 k v5 h n) fun kk4 =>
 lpC [3, 4, 8, 9, 10] (fun lo9 s8 h n =>
 pc s8 fun v10 s11 =>
 pc s11 fun v12 s13 =>
 pc s13 fun v14 s15 =>
 pc s15 fun v16 s17 =>
 pc s17 fun v18 s19 =>
 evBin2 tbx .lss 3 v18 v16 fun v20 =>
 brB v20 (
 jp (fun (s21 : VT [3, 4, 8, 9, 10]) h n =>
 pc s21 fun v23 s24 =>
 pc s24 fun v25 s26 =>
 pc s26 fun v27 s28 =>
 pc s28 fun v29 s30 =>
 pc s30 fun v31 s32 =>
 evBin2 tbx .add 3 v31 (.i .i64 1) fun v33 =>
 lo9 (v23, v25, v27, v29, v33, ()) h n) fun kk22 =>
 evIa tbx 29 v14 v18 fun v34 =>
 evLoad tbx 57 v34 h fun v35 =>
 evAlloc tbx 57 h n fun v36 h n =>
 evStore tbx 57 v36 v35 h n fun _ h n =>
 evFa tbx 57 0 v36 fun v37 =>
 evLoad tbx 9 v37 h fun v38 =>
 evLook tbx mtab 227 v10 v38 false h fun v39 =>
 evUn .not v39 fun v40 =>
 brB v40 (
 evFa tbx 57 0 v36 fun v41 =>
 evLoad tbx 9 v41 h fun v42 =>
 evMapUpd mtab 227 v10 v42 (.b true) h n fun _ h n =>
 evLoad tbx 57 v36 h fun v43 =>
 evBuildSl tbx 29 1 [(0, v43)] h n fun v44 h n =>
 evApp tbx 29 29 v12 v44 h n fun v45 h n =>
 kk22 (v10, v45, v14, v16, v18, ()) h n) (
 kk22 (v10, v12, v14, v16, v18, ()) h n)) (
 kk4 (v12, ()) h n)) fu (v1, .ns, a0, v2, (.i .i64 0), ()) h n
noncomputable def e216 : FE := ⟨Tryz.f216, bd Tryz.f216, [0], [2], (.q .z (.q .z (.q .z (.q (.q .z (.b [4] (.l [3, 4, 8, 9, 10] (.q .z (.q (.c .z .z) (.q (.b [3, 4, 8, 9, 10] (.q .z (.q .z (.c (.q .z .z) .z)))) .z)))))) (.q .z (.q .z .z))))))⟩
theorem q216 (fu : Nat) (cf : CF) (a0 : V) (h : H) (n : Id) (k : KV) : evF fu cf e216 [a0] h n k = s216 fu cf a0 h n k := by kernel_rfl
theorem p216 : PfOk Tryz.prog tbx mtab 216 (w1 (s216 fuX)) := pfo e216 Tryz.func216 (by kernel_rfl) (w1_ok (q216 fuX))
noncomputable def s217 (fu : Nat) (cf : CF) (a0 : V) (h : H) (n : Id) (k : KV) : R :=
 jp (fun (s3 : VT [2]) h n =>
 pc s3 fun v6 s7 =>
 k v6 h n) fun kk1 =>
 jp (lpC [0, 3, 4] (fun lo5 s4 h n =>
 pc s4 fun v8 s9 =>
 pc s9 fun v10 s11 =>
 pc s11 fun v12 s13 =>
 evLen tbx 30 v8 fun v14 =>
 evBin2 tbx .eql 3 v14 (.i .i64 0) fun v15 =>
 brB v15 (
 k v12 h n) (
 jp (fun (s16 : VT [0, 3, 4]) h n =>
 pc s16 fun v18 s19 =>
 pc s19 fun v20 s21 =>
 pc s21 fun v22 s23 =>
 evSlc tbx 30 v18 (some (.i .i64 1)) none fun v24 =>
 lo5 (v24, v20, v22, ()) h n) fun kk17 =>
 evIa tbx 30 v8 (.i .i64 0) fun v25 =>
 evLoad tbx 51 v25 h fun v26 =>
 cf 261 [v26] h n fun v27 h n =>
 evLook tbx mtab 227 v10 v27 false h fun v28 =>
 evUn .not v28 fun v29 =>
 brB v29 (
 evMapUpd mtab 227 v10 v27 (.b true) h n fun _ h n =>
 evIa tbx 30 v8 (.i .i64 0) fun v30 =>
 evLoad tbx 51 v30 h fun v31 =>
 evAlloc tbx 51 h n fun v32 h n =>
 evStore tbx 51 v32 v31 h n fun _ h n =>
 evFa tbx 51 7 v32 fun v33 =>
 evLoad tbx 49 v33 h fun v34 =>
 cf 113 [v34] h n fun v35 h n =>
 evFa tbx 51 7 v32 fun v36 =>
 evStore tbx 49 v36 v35 h n fun _ h n =>
 evLoad tbx 51 v32 h fun v37 =>
 evBuildSl tbx 30 1 [(0, v37)] h n fun v38 h n =>
 evApp tbx 30 30 v12 v38 h n fun v39 h n =>
 kk17 (v8, v10, v39, ()) h n) (
 kk17 (v8, v10, v12, ()) h n))) fu) fun lo2 =>
 evMkMap h n fun v40 h n =>
 evLen tbx 30 a0 fun v41 =>
 evBin2 tbx .eql 3 v41 (.i .i64 0) fun v42 =>
 brB v42 (
 k .ns h n) (
 jp (fun (s43 : VT [0, 3, 4]) h n =>
 pc s43 fun v45 s46 =>
 pc s46 fun v47 s48 =>
 pc s48 fun v49 s50 =>
 evSlc tbx 30 v45 (some (.i .i64 1)) none fun v51 =>
 lo2 (v51, v47, v49, ()) h n) fun kk44 =>
 evIa tbx 30 a0 (.i .i64 0) fun v52 =>
 evLoad tbx 51 v52 h fun v53 =>
 cf 261 [v53] h n fun v54 h n =>
 evLook tbx mtab 227 v40 v54 false h fun v55 =>
 evUn .not v55 fun v56 =>
 brB v56 (
 evMapUpd mtab 227 v40 v54 (.b true) h n fun _ h n =>
 evIa tbx 30 a0 (.i .i64 0) fun v57 =>
 evLoad tbx 51 v57 h fun v58 =>
 evAlloc tbx 51 h n fun v59 h n =>
 evStore tbx 51 v59 v58 h n fun _ h n =>
 evFa tbx 51 7 v59 fun v60 =>
 evLoad tbx 49 v60 h fun v61 =>
 cf 113 [v61] h n fun v62 h n =>
 evFa tbx 51 7 v59 fun v63 =>
 evStore tbx 49 v63 v62 h n fun _ h n =>
 evLoad tbx 51 v59 h fun v64 =>
 evBuildSl tbx 30 1 [(0, v64)] h n fun v65 h n =>
 evApp tbx 30 30 .ns v65 h n fun v66 h n =>
 kk44 (a0, v40, v66, ()) h n) (
 kk44 (a0, v40, .ns, ()) h n))
noncomputable def e217 : FE := ⟨Tryz.f217, bd Tryz.f217, [0], [2], (.q .z (.g 0 [0, 3, 4] [2] (.q .z (.q .z (.q .z (.q (.q .z (.c (.q .z .z) .z)) (.s [0, 3, 4] (.q .z (.q .z (.c (.q .z (.q .z (.q .z .z))) .z))) (.q .z .z)))))) (.q .z (.q (.q .z (.c (.q .z .z) .z)) (.s [0, 3, 4] (.q .z (.q .z (.c (.q .z (.q .z (.q .z .z))) .z))) (.q .z .z))))))⟩
theorem q217 (fu : Nat) (cf : CF) (a0 : V) (h : H) (n : Id) (k : KV) : evF fu cf e217 [a0] h n k = s217 fu cf a0 h n k := by kernel_rfl
theorem p217 : PfOk Tryz.prog tbx mtab 217 (w1 (s217 fuX)) := pfo e217 Tryz.func217 (by kernel_rfl) (w1_ok (q217 fuX))
noncomputable def s218 (fu : Nat) (cf : CF) (a0 a1 : V) (h : H) (n : Id) (k : KV) : R :=
 cf 262 [a0, a1] h n fun v1 h n =>
 evBin2 tbx .geq 3 v1 (.i .i64 0) fun v2 =>
 k v2 h n
noncomputable def e218 : FE := ⟨Tryz.f218, bd Tryz.f218, [0, 1], [4], (.q .z (.q .z .z))⟩
theorem q218 (fu : Nat) (cf : CF) (a0 a1 : V) (h : H) (n : Id) (k : KV) : evF fu cf e218 [a0, a1] h n k = s218 fu cf a0 a1 h n k := by kernel_rfl
theorem p218 : PfOk Tryz.prog tbx mtab 218 (w2 (s218 fuX)) := pfo e218 Tryz.func218 (by kernel_rfl) (w2_ok (q218 fuX))
noncomputable def s219 (fu : Nat) (cf : CF) (a0 a1 : V) (h : H) (n : Id) (k : KV) : R :=
 evBox a0 h n fun v1 h n =>
 evFa tbx 57 0 v1 fun v2 =>
 evLoad tbx 9 v2 h fun v3 =>
 evFa tbx 57 0 a1 fun v4 =>
 evLoad tbx 9 v4 h fun v5 =>
 evBin2 tbx .eql 9 v3 v5 fun v6 =>
 k v6 h n
noncomputable def e219 : FE := ⟨Tryz.f219, bd Tryz.f219, [0, 1], [3], (.q .z (.q .z .z))⟩
theorem q219 (fu : Nat) (cf : CF) (a0 a1 : V) (h : H) (n : Id) (k : KV) : evF fu cf e219 [a0, a1] h n k = s219 fu cf a0 a1 h n k := by kernel_rfl
theorem p219 : PfOk Tryz.prog tbx mtab 219 (w2 (s219 fuX)) := pfo e219 Tryz.func219 (by kernel_rfl) (w2_ok (q219 fuX))
noncomputable def s220 (fu : Nat) (cf : CF) (a0 a1 a2 a3 : V) (h : H) (n : Id) (k : KV) : R :=
 jp (fun (s3 : VT [8, 9]) h n =>
 pc s3 fun v6 s7 =>
 pc s7 fun v8 s9 =>
 k (.tp [v6, v8]) h n) fun kk1 =>
 jp (lpC [0, 12, 13] (fun lo5 s4 h n =>
 pc s4 fun v10 s11 =>
 pc s11 fun v12 s13 =>
 pc s13 fun v14 s15 =>
 evLen tbx 328 v12 fun v16 =>
 evBin2 tbx .sub 3 v16 (.i .i64 1) fun v17 =>
 evIa tbx 328 v12 v17 fun v18 =>
 evNc' v18 fun v19 =>
 evFa tbx 327 2 v19 fun v20 =>
 evLoad tbx 323 v20 h fun v21 =>
 evLen tbx 323 v21 fun v22 =>
 evBin2 tbx .eql 3 v22 (.i .i64 0) fun v23 =>
 brB v23 (
 evNc' v18 fun v24 =>
 evFa tbx 327 3 v24 fun v25 =>
 evLoad tbx 71 v25 h fun v26 =>
 cf 264 [v26] h n fun v27 h n =>
 evExt 0 v27 fun v28 =>
 evExt 1 v27 fun v29 =>
 evBin2 tbx .neq 33 v29 (.i .i64 0) fun v30 =>
 brB v30 (
 k (.tp [(.s 0 0), v29]) h n) (
 evLen tbx 328 v12 fun v31 =>
 evBin2 tbx .eql 3 v31 (.i .i64 1) fun v32 =>
 brB v32 (
 k (.tp [v28, (.i .i64 0)]) h n) (
 evNc' v10 fun v33 =>
 evFa tbx 274 1 v33 fun v34 =>
 evLoad tbx 272 v34 h fun v35 =>
 evNc' v18 fun v36 =>
 evFa tbx 327 0 v36 fun v37 =>
 evLoad tbx 9 v37 h fun v38 =>
 evNc' v18 fun v39 =>
 evFa tbx 327 4 v39 fun v40 =>
 evLoad tbx 3 v40 h fun v41 =>
 evBuild tbx 332 [(0, v28), (1, v41)] fun v42 =>
 evLoad tbx 272 v34 h fun w73 => cond (eqV 6 w73 v35) (
 evLoad tbx 9 v37 h fun w72 => cond (eqV 6 w72 v38) (
 evLoad tbx 3 v40 h fun w71 => cond (eqV 6 w71 v41) (
 evMapUpd mtab 272 v35 v38 v42 h n fun _ h n =>
 evNc' v18 fun v43 =>
 evFa tbx 327 4 v43 fun v44 =>
 evLoad tbx 3 v44 h fun v45 =>
 evBin2 tbx .add 3 v45 (.i .i64 1) fun v46 =>
 evLen tbx 328 v12 fun v47 =>
 evBin2 tbx .sub 3 v47 (.i .i64 1) fun v48 =>
 evSlc tbx 328 v12 none (some v48) fun v49 =>
 evLen tbx 328 v49 fun v50 =>
 evBin2 tbx .sub 3 v50 (.i .i64 1) fun v51 =>
 evIa tbx 328 v49 v51 fun v52 =>
 evNc' v52 fun v53 =>
 evFa tbx 327 3 v53 fun v54 =>
 evLoad tbx 71 v54 h fun v55 =>
 evNc' v52 fun v56 =>
 evFa tbx 327 4 v56 fun v57 =>
 evLoad tbx 3 v57 h fun v58 =>
 evMax v58 v46 fun v59 =>
 evLoad tbx 71 v54 h fun w70 => cond (eqV 6 w70 v55) (
 evLoad tbx 3 v57 h fun w69 => cond (eqV 6 w69 v58) (
 evBuildSl tbx 71 1 [(0, v28)] h n fun v60 h n =>
 evLoad tbx 71 v54 h fun w68 => cond (eqV 6 w68 v55) (
 evLoad tbx 3 v57 h fun w67 => cond (eqV 6 w67 v58) (
 evApp tbx 71 71 v55 v60 h n fun v61 h n =>
 evNc' v52 fun v62 =>
 evFa tbx 327 3 v62 fun v63 =>
 evLoad tbx 3 v57 h fun w66 => cond (eqV 6 w66 v58) (
 evStore tbx 71 v63 v61 h n fun _ h n =>
 evNc' v52 fun v64 =>
 evFa tbx 327 4 v64 fun v65 =>
 evStore tbx 3 v65 v59 h n fun _ h n =>
 lo5 (v10, v49, v14, ()) h n) none) none) none) none) none) none) none) none))) (
 evNc' v18 fun v74 =>
 evFa tbx 327 2 v74 fun v75 =>
 evLoad tbx 323 v75 h fun v76 =>
 evIa tbx 323 v76 (.i .i64 0) fun v77 =>
 evLoad tbx 334 v77 h fun v78 =>
 evAlloc tbx 334 h n fun v79 h n =>
 evStore tbx 334 v79 v78 h n fun _ h n =>
 evNc' v18 fun v80 =>
 evFa tbx 327 2 v80 fun v81 =>
 evLoad tbx 323 v81 h fun v82 =>
 evSlc tbx 323 v82 (some (.i .i64 1)) none fun v83 =>
 evNc' v18 fun v84 =>
 evFa tbx 327 2 v84 fun v85 =>
 evStore tbx 323 v85 v83 h n fun _ h n =>
 evFa tbx 334 0 v79 fun v86 =>
 evLoad tbx 4 v86 h fun v87 =>
 evUn .not v87 fun v88 =>
 brB v88 (
 evNc' v18 fun v89 =>
 evFa tbx 327 3 v89 fun v90 =>
 evLoad tbx 71 v90 h fun v91 =>
 evFa tbx 334 1 v79 fun v92 =>
 evLoad tbx 9 v92 h fun v93 =>
 evLoad tbx 71 v90 h fun w100 => cond (eqV 6 w100 v91) (
 evLoad tbx 9 v92 h fun w99 => cond (eqV 6 w99 v93) (
 evBuildSl tbx 71 1 [(0, v93)] h n fun v94 h n =>
 evLoad tbx 71 v90 h fun w98 => cond (eqV 6 w98 v91) (
 evApp tbx 71 71 v91 v94 h n fun v95 h n =>
 evNc' v18 fun v96 =>
 evFa tbx 327 3 v96 fun v97 =>
 evStore tbx 71 v97 v95 h n fun _ h n =>
 lo5 (v10, v12, v14, ()) h n) none) none) none) (
 evNc' v10 fun v101 =>
 evFa tbx 274 0 v101 fun v102 =>
 evLoad tbx 271 v102 h fun v103 =>
 evFa tbx 334 1 v79 fun v104 =>
 evLoad tbx 9 v104 h fun v105 =>
 evLook tbx mtab 271 v103 v105 true h fun v106 =>
 evExt 0 v106 fun v107 =>
 evExt 1 v106 fun v108 =>
 evLoad tbx 271 v102 h fun w191 => cond (eqV 6 w191 v103) (
 evLoad tbx 9 v104 h fun w190 => cond (eqV 6 w190 v105) (
 evLook tbx mtab 271 v103 v105 true h fun w189 => cond (eqV 6 w189 v106) (
 evLen tbx 328 v12 fun v109 =>
 evBin2 tbx .add 3 v14 v109 fun v110 =>
 evBin2 tbx .sub 3 v110 (.i .i64 1) fun v111 =>
 jp (fun (s112 : VT [0, 12, 13, 14, 19, 20, 22]) h n =>
 pc s112 fun v114 s115 =>
 pc s115 fun v116 s117 =>
 pc s117 fun v118 s119 =>
 pc s119 fun v120 s121 =>
 pc s121 fun v122 s123 =>
 pc s123 fun v124 s125 =>
 pc s125 fun v126 s127 =>
 evNc' v114 fun v128 =>
 evFa tbx 274 1 v128 fun v129 =>
 evLoad tbx 272 v129 h fun v130 =>
 evFa tbx 334 1 v122 fun v131 =>
 evLoad tbx 9 v131 h fun v132 =>
 evLook tbx mtab 272 v130 v132 true h fun v133 =>
 evExt 0 v133 fun v134 =>
 evExt 1 v133 fun v135 =>
 evLoad tbx 272 v129 h fun w184 => cond (eqV 6 w184 v130) (
 evLoad tbx 9 v131 h fun w183 => cond (eqV 6 w183 v132) (
 evLook tbx mtab 272 v130 v132 true h fun w182 => cond (eqV 6 w182 v133) (
 evAlloc tbx 332 h n fun v136 h n =>
 evLoad tbx 272 v129 h fun w181 => cond (eqV 6 w181 v130) (
 evLoad tbx 9 v131 h fun w180 => cond (eqV 6 w180 v132) (
 evLook tbx mtab 272 v130 v132 true h fun w179 => cond (eqV 6 w179 v133) (
 evStore tbx 332 v136 v134 h n fun _ h n =>
 brB v135 (
 evBin2 tbx .add 3 v126 (.i .i64 1) fun v137 =>
 evFa tbx 332 1 v136 fun v138 =>
 evLoad tbx 3 v138 h fun v139 =>
 evBin2 tbx .add 3 v137 v139 fun v140 =>
 evBin2 tbx .gtr 3 v140 (.i .i64 20) fun v141 =>
 brB v141 (
 k (.tp [(.s 0 0), (.i .i64 7)]) h n) (
 evNc' v120 fun v142 =>
 evFa tbx 327 3 v142 fun v143 =>
 evLoad tbx 71 v143 h fun v144 =>
 evFa tbx 332 0 v136 fun v145 =>
 evLoad tbx 9 v145 h fun v146 =>
 evNc' v120 fun v147 =>
 evFa tbx 327 4 v147 fun v148 =>
 evLoad tbx 3 v148 h fun v149 =>
 evFa tbx 332 1 v136 fun v150 =>
 evLoad tbx 3 v150 h fun v151 =>
 evBin2 tbx .add 3 v151 (.i .i64 1) fun v152 =>
 evMax v149 v152 fun v153 =>
 evLoad tbx 71 v143 h fun w169 => cond (eqV 6 w169 v144) (
 evLoad tbx 9 v145 h fun w168 => cond (eqV 6 w168 v146) (
 evLoad tbx 3 v148 h fun w167 => cond (eqV 6 w167 v149) (
 evLoad tbx 3 v150 h fun w166 => cond (eqV 6 w166 v151) (
 evBuildSl tbx 71 1 [(0, v146)] h n fun v154 h n =>
 evLoad tbx 71 v143 h fun w165 => cond (eqV 6 w165 v144) (
 evLoad tbx 3 v148 h fun w164 => cond (eqV 6 w164 v149) (
 evLoad tbx 3 v150 h fun w163 => cond (eqV 6 w163 v151) (
 evApp tbx 71 71 v144 v154 h n fun v155 h n =>
 evNc' v120 fun v156 =>
 evFa tbx 327 3 v156 fun v157 =>
 evLoad tbx 3 v148 h fun w162 => cond (eqV 6 w162 v149) (
 evLoad tbx 3 v150 h fun w161 => cond (eqV 6 w161 v151) (
 evStore tbx 71 v157 v155 h n fun _ h n =>
 evNc' v120 fun v158 =>
 evFa tbx 327 4 v158 fun v159 =>
 evLoad tbx 3 v150 h fun w160 => cond (eqV 6 w160 v151) (
 evStore tbx 3 v159 v153 h n fun _ h n =>
 lo5 (v114, v116, v118, ()) h n) none) none) none) none) none) none) none) none) none) none)) (
 cf 263 [v124] h n fun v170 h n =>
 evExt 0 v170 fun v171 =>
 evExt 1 v170 fun v172 =>
 evBin2 tbx .neq 33 v172 (.i .i64 0) fun v173 =>
 brB v173 (
 k (.tp [(.s 0 0), v172]) h n) (
 evFa tbx 334 1 v122 fun v174 =>
 evLoad tbx 9 v174 h fun v175 =>
 evBuild tbx 327 [(0, v175), (1, (.b true)), (2, v171)] fun v176 =>
 evBuildSl tbx 328 1 [(0, v176)] h n fun v177 h n =>
 evApp tbx 328 328 v116 v177 h n fun v178 h n =>
 lo5 (v114, v178, v118, ()) h n))) none) none) none) none) none) none) fun kk113 =>
 evUn .not v108 fun v185 =>
 brB v185 (
 k (.tp [(.s 0 0), (.i .i64 17)]) h n) (
 let v186 : V := (.fn 266 [v79])
 cf 265 [v12, v186] h n fun v187 h n =>
 brB v187 (
 k (.tp [(.s 0 0), (.i .i64 18)]) h n) (
 evBin2 tbx .geq 3 v111 (.i .i64 20) fun v188 =>
 brB v188 (
 k (.tp [(.s 0 0), (.i .i64 7)]) h n) (
 kk113 (v10, v12, v14, v18, v79, v107, v111, ()) h n)))) none) none) none))) fu) fun lo2 =>
 cf 263 [a1] h n fun v192 h n =>
 evExt 0 v192 fun v193 =>
 evExt 1 v192 fun v194 =>
 evBin2 tbx .neq 33 v194 (.i .i64 0) fun v195 =>
 brB v195 (
 k (.tp [(.s 0 0), v194]) h n) (
 evBuild tbx 327 [(0, a2), (1, a3), (2, v193)] fun v196 =>
 evBuildSl tbx 328 1 [(0, v196)] h n fun v197 h n =>
 jp (fun (s198 : VT [0, 12, 13]) h n =>
 pc s198 fun v200 s201 =>
 pc s201 fun v202 s203 =>
 pc s203 fun v204 s205 =>
 evLen tbx 328 v202 fun v206 =>
 evBin2 tbx .sub 3 v206 (.i .i64 1) fun v207 =>
 evIa tbx 328 v202 v207 fun v208 =>
 evNc' v208 fun v209 =>
 evFa tbx 327 2 v209 fun v210 =>
 evLoad tbx 323 v210 h fun v211 =>
 evLen tbx 323 v211 fun v212 =>
 evBin2 tbx .eql 3 v212 (.i .i64 0) fun v213 =>
 brB v213 (
 evNc' v208 fun v214 =>
 evFa tbx 327 3 v214 fun v215 =>
 evLoad tbx 71 v215 h fun v216 =>
 cf 264 [v216] h n fun v217 h n =>
 evExt 0 v217 fun v218 =>
 evExt 1 v217 fun v219 =>
 evBin2 tbx .neq 33 v219 (.i .i64 0) fun v220 =>
 brB v220 (
 k (.tp [(.s 0 0), v219]) h n) (
 evLen tbx 328 v202 fun v221 =>
 evBin2 tbx .eql 3 v221 (.i .i64 1) fun v222 =>
 brB v222 (
 k (.tp [v218, (.i .i64 0)]) h n) (
 evNc' v200 fun v223 =>
 evFa tbx 274 1 v223 fun v224 =>
 evLoad tbx 272 v224 h fun v225 =>
 evNc' v208 fun v226 =>
 evFa tbx 327 0 v226 fun v227 =>
 evLoad tbx 9 v227 h fun v228 =>
 evNc' v208 fun v229 =>
 evFa tbx 327 4 v229 fun v230 =>
 evLoad tbx 3 v230 h fun v231 =>
 evBuild tbx 332 [(0, v218), (1, v231)] fun v232 =>
 evLoad tbx 272 v224 h fun w263 => cond (eqV 6 w263 v225) (
 evLoad tbx 9 v227 h fun w262 => cond (eqV 6 w262 v228) (
 evLoad tbx 3 v230 h fun w261 => cond (eqV 6 w261 v231) (
 evMapUpd mtab 272 v225 v228 v232 h n fun _ h n =>
 evNc' v208 fun v233 =>
 evFa tbx 327 4 v233 fun v234 =>
 evLoad tbx 3 v234 h fun v235 =>
 evBin2 tbx .add 3 v235 (.i .i64 1) fun v236 =>
 evLen tbx 328 v202 fun v237 =>
 evBin2 tbx .sub 3 v237 (.i .i64 1) fun v238 =>
 evSlc tbx 328 v202 none (some v238) fun v239 =>
 evLen tbx 328 v239 fun v240 =>
 evBin2 tbx .sub 3 v240 (.i .i64 1) fun v241 =>
 evIa tbx 328 v239 v241 fun v242 =>
 evNc' v242 fun v243 =>
 evFa tbx 327 3 v243 fun v244 =>
 evLoad tbx 71 v244 h fun v245 =>
 evNc' v242 fun v246 =>
 evFa tbx 327 4 v246 fun v247 =>
 evLoad tbx 3 v247 h fun v248 =>
 evMax v248 v236 fun v249 =>
 evLoad tbx 71 v244 h fun w260 => cond (eqV 6 w260 v245) (
 evLoad tbx 3 v247 h fun w259 => cond (eqV 6 w259 v248) (
 evBuildSl tbx 71 1 [(0, v218)] h n fun v250 h n =>
 evLoad tbx 71 v244 h fun w258 => cond (eqV 6 w258 v245) (
 evLoad tbx 3 v247 h fun w257 => cond (eqV 6 w257 v248) (
 evApp tbx 71 71 v245 v250 h n fun v251 h n =>
 evNc' v242 fun v252 =>
 evFa tbx 327 3 v252 fun v253 =>
 evLoad tbx 3 v247 h fun w256 => cond (eqV 6 w256 v248) (
 evStore tbx 71 v253 v251 h n fun _ h n =>
 evNc' v242 fun v254 =>
 evFa tbx 327 4 v254 fun v255 =>
 evStore tbx 3 v255 v249 h n fun _ h n =>
 lo2 (v200, v239, v204, ()) h n) none) none) none) none) none) none) none) none))) (
 evNc' v208 fun v264 =>
 evFa tbx 327 2 v264 fun v265 =>
 evLoad tbx 323 v265 h fun v266 =>
 evIa tbx 323 v266 (.i .i64 0) fun v267 =>
 evLoad tbx 334 v267 h fun v268 =>
 evAlloc tbx 334 h n fun v269 h n =>
 evStore tbx 334 v269 v268 h n fun _ h n =>
 evNc' v208 fun v270 =>
 evFa tbx 327 2 v270 fun v271 =>
 evLoad tbx 323 v271 h fun v272 =>
 evSlc tbx 323 v272 (some (.i .i64 1)) none fun v273 =>
 evNc' v208 fun v274 =>
 evFa tbx 327 2 v274 fun v275 =>
 evStore tbx 323 v275 v273 h n fun _ h n =>
 evFa tbx 334 0 v269 fun v276 =>
 evLoad tbx 4 v276 h fun v277 =>
 evUn .not v277 fun v278 =>
 brB v278 (
 evNc' v208 fun v279 =>
 evFa tbx 327 3 v279 fun v280 =>
 evLoad tbx 71 v280 h fun v281 =>
 evFa tbx 334 1 v269 fun v282 =>
 evLoad tbx 9 v282 h fun v283 =>
 evLoad tbx 71 v280 h fun w290 => cond (eqV 6 w290 v281) (
 evLoad tbx 9 v282 h fun w289 => cond (eqV 6 w289 v283) (
 evBuildSl tbx 71 1 [(0, v283)] h n fun v284 h n =>
 evLoad tbx 71 v280 h fun w288 => cond (eqV 6 w288 v281) (
 evApp tbx 71 71 v281 v284 h n fun v285 h n =>
 evNc' v208 fun v286 =>
 evFa tbx 327 3 v286 fun v287 =>
 evStore tbx 71 v287 v285 h n fun _ h n =>
 lo2 (v200, v202, v204, ()) h n) none) none) none) (
 evNc' v200 fun v291 =>
 evFa tbx 274 0 v291 fun v292 =>
 evLoad tbx 271 v292 h fun v293 =>
 evFa tbx 334 1 v269 fun v294 =>
 evLoad tbx 9 v294 h fun v295 =>
 evLook tbx mtab 271 v293 v295 true h fun v296 =>
 evExt 0 v296 fun v297 =>
 evExt 1 v296 fun v298 =>
 evLoad tbx 271 v292 h fun w381 => cond (eqV 6 w381 v293) (
 evLoad tbx 9 v294 h fun w380 => cond (eqV 6 w380 v295) (
 evLook tbx mtab 271 v293 v295 true h fun w379 => cond (eqV 6 w379 v296) (
 evLen tbx 328 v202 fun v299 =>
 evBin2 tbx .add 3 v204 v299 fun v300 =>
 evBin2 tbx .sub 3 v300 (.i .i64 1) fun v301 =>
 jp (fun (s302 : VT [0, 12, 13, 14, 19, 20, 22]) h n =>
 pc s302 fun v304 s305 =>
 pc s305 fun v306 s307 =>
 pc s307 fun v308 s309 =>
 pc s309 fun v310 s311 =>
 pc s311 fun v312 s313 =>
 pc s313 fun v314 s315 =>
 pc s315 fun v316 s317 =>
 evNc' v304 fun v318 =>
 evFa tbx 274 1 v318 fun v319 =>
 evLoad tbx 272 v319 h fun v320 =>
 evFa tbx 334 1 v312 fun v321 =>
 evLoad tbx 9 v321 h fun v322 =>
 evLook tbx mtab 272 v320 v322 true h fun v323 =>
 evExt 0 v323 fun v324 =>
 evExt 1 v323 fun v325 =>
 evLoad tbx 272 v319 h fun w374 => cond (eqV 6 w374 v320) (
 evLoad tbx 9 v321 h fun w373 => cond (eqV 6 w373 v322) (
 evLook tbx mtab 272 v320 v322 true h fun w372 => cond (eqV 6 w372 v323) (
 evAlloc tbx 332 h n fun v326 h n =>
 evLoad tbx 272 v319 h fun w371 => cond (eqV 6 w371 v320) (
 evLoad tbx 9 v321 h fun w370 => cond (eqV 6 w370 v322) (
 evLook tbx mtab 272 v320 v322 true h fun w369 => cond (eqV 6 w369 v323) (
 evStore tbx 332 v326 v324 h n fun _ h n =>
 brB v325 (
 evBin2 tbx .add 3 v316 (.i .i64 1) fun v327 =>
 evFa tbx 332 1 v326 fun v328 =>
 evLoad tbx 3 v328 h fun v329 =>
 evBin2 tbx .add 3 v327 v329 fun v330 =>
 evBin2 tbx .gtr 3 v330 (.i .i64 20) fun v331 =>
 brB v331 (
 k (.tp [(.s 0 0), (.i .i64 7)]) h n) (
 evNc' v310 fun v332 =>
 evFa tbx 327 3 v332 fun v333 =>
 evLoad tbx 71 v333 h fun v334 =>
 evFa tbx 332 0 v326 fun v335 =>
 evLoad tbx 9 v335 h fun v336 =>
 evNc' v310 fun v337 =>
 evFa tbx 327 4 v337 fun v338 =>
 evLoad tbx 3 v338 h fun v339 =>
 evFa tbx 332 1 v326 fun v340 =>
 evLoad tbx 3 v340 h fun v341 =>
 evBin2 tbx .add 3 v341 (.i .i64 1) fun v342 =>
 evMax v339 v342 fun v343 =>
 evLoad tbx 71 v333 h fun w359 => cond (eqV 6 w359 v334) (
 evLoad tbx 9 v335 h fun w358 => cond (eqV 6 w358 v336) (
 evLoad tbx 3 v338 h fun w357 => cond (eqV 6 w357 v339) (
 evLoad tbx 3 v340 h fun w356 => cond (eqV 6 w356 v341) (
 evBuildSl tbx 71 1 [(0, v336)] h n fun v344 h n =>
 evLoad tbx 71 v333 h fun w355 => cond (eqV 6 w355 v334) (
 evLoad tbx 3 v338 h fun w354 => cond (eqV 6 w354 v339) (
 evLoad tbx 3 v340 h fun w353 => cond (eqV 6 w353 v341) (
 evApp tbx 71 71 v334 v344 h n fun v345 h n =>
 evNc' v310 fun v346 =>
 evFa tbx 327 3 v346 fun v347 =>
 evLoad tbx 3 v338 h fun w352 => cond (eqV 6 w352 v339) (
 evLoad tbx 3 v340 h fun w351 => cond (eqV 6 w351 v341) (
 evStore tbx 71 v347 v345 h n fun _ h n =>
 evNc' v310 fun v348 =>
 evFa tbx 327 4 v348 fun v349 =>
 evLoad tbx 3 v340 h fun w350 => cond (eqV 6 w350 v341) (
 evStore tbx 3 v349 v343 h n fun _ h n =>
 lo2 (v304, v306, v308, ()) h n) none) none) none) none) none) none) none) none) none) none)) (
 cf 263 [v314] h n fun v360 h n =>
 evExt 0 v360 fun v361 =>
 evExt 1 v360 fun v362 =>
 evBin2 tbx .neq 33 v362 (.i .i64 0) fun v363 =>
 brB v363 (
 k (.tp [(.s 0 0), v362]) h n) (
 evFa tbx 334 1 v312 fun v364 =>
 evLoad tbx 9 v364 h fun v365 =>
 evBuild tbx 327 [(0, v365), (1, (.b true)), (2, v361)] fun v366 =>
 evBuildSl tbx 328 1 [(0, v366)] h n fun v367 h n =>
 evApp tbx 328 328 v306 v367 h n fun v368 h n =>
 lo2 (v304, v368, v308, ()) h n))) none) none) none) none) none) none) fun kk303 =>
 evUn .not v298 fun v375 =>
 brB v375 (
 k (.tp [(.s 0 0), (.i .i64 17)]) h n) (
 let v376 : V := (.fn 266 [v269])
 cf 265 [v202, v376] h n fun v377 h n =>
 brB v377 (
 k (.tp [(.s 0 0), (.i .i64 18)]) h n) (
 evBin2 tbx .geq 3 v301 (.i .i64 20) fun v378 =>
 brB v378 (
 k (.tp [(.s 0 0), (.i .i64 7)]) h n) (
 kk303 (v200, v202, v204, v208, v269, v297, v301, ()) h n)))) none) none) none))) fun kk199 =>
 brB a3 (
 kk199 (a0, v197, (.i .i64 1), ()) h n) (
 kk199 (a0, v197, (.i .i64 0), ()) h n))
noncomputable def e220 : FE := ⟨Tryz.f220, bd Tryz.f220, [0, 1, 2, 3], [8, 9], (.q .z (.g 0 [0, 12, 13] [8, 9] (.q .z (.q (.q .z (.c (.q .z .z) .z)) (.q .z (.q .z (.s [0, 12, 13] (.q .z (.c .z .z)) (.q .z (.q .z (.q (.q .z (.c (.q .z (.q (.q .z (.c (.q .z .z) .z)) (.q (.q .z (.c (.q .z .z) .z)) (.q .z (.q .z (.q .z (.q .z (.q .z .z)))))))) .z)) (.q .z (.q .z (.q (.q .z (.c (.q .z .z) .z)) (.q .z (.q .z (.q (.b [0, 12, 13, 14, 19, 20, 22] (.q .z (.c (.q .z .z) (.q .z (.c (.q .z .z) (.q .z (.c (.q .z .z) .z))))))) (.q (.q .z (.q .z (.c (.q (.q .z (.c (.q .z .z) .z)) (.q .z .z)) .z))) (.q .z (.q (.q .z (.c (.q .z .z) .z)) (.q .z .z)))))))))))))))))) (.q .z (.q .z (.q (.q .z (.c (.q .z (.q (.q .z (.c (.q .z .z) .z)) (.q (.q .z (.c (.q .z .z) .z)) (.q .z (.q .z (.q .z (.q .z (.q .z .z)))))))) .z)) (.q .z (.q .z (.q (.q .z (.c (.q .z .z) .z)) (.q .z (.q .z (.q (.b [0, 12, 13, 14, 19, 20, 22] (.q .z (.c (.q .z .z) (.q .z (.c (.q .z .z) (.q .z (.c (.q .z .z) .z))))))) (.q (.q .z (.q .z (.c (.q (.q .z (.c (.q .z .z) .z)) (.q .z .z)) .z))) (.q .z (.q (.q .z (.c (.q .z .z) .z)) (.q .z .z)))))))))))))))⟩
theorem q220 (fu : Nat) (cf : CF) (a0 a1 a2 a3 : V) (h : H) (n : Id) (k : KV) : evF fu cf e220 [a0, a1, a2, a3] h n k = s220 fu cf a0 a1 a2 a3 h n k := by kernel_rfl
theorem p220 : PfOk Tryz.prog tbx mtab 220 (w4 (s220 fuX)) := pfo e220 Tryz.func220 (by kernel_rfl) (w4_ok (q220 fuX))
noncomputable def s221 (fu : Nat) (cf : CF) (a0 a1 a2 : V) (h : H) (n : Id) (k : KV) : R :=
 evBox a1 h n fun v1 h n =>
 evAlloc tbx 51 h n fun v2 h n =>
 evFa tbx 51 7 v1 fun v3 =>
 evLoad tbx 49 v3 h fun v4 =>
 cf 113 [v4] h n fun v5 h n =>
 evFa tbx 51 7 v1 fun v6 =>
 evStore tbx 49 v6 v5 h n fun _ h n =>
 evFa tbx 51 0 v1 fun v7 =>
 evFa tbx 51 1 v1 fun v8 =>
 evFa tbx 51 2 v1 fun v9 =>
 evFa tbx 51 3 v1 fun v10 =>
 evFa tbx 51 4 v1 fun v11 =>
 evFa tbx 51 5 v1 fun v12 =>
 evBuildSl tbx 278 6 [(0, v7), (1, v8), (2, v9), (3, v10), (4, v11), (5, v12)] h n fun v13 h n =>
 evFa tbx 51 7 v1 fun v14 =>
 evLoad tbx 49 v14 h fun v15 =>
 evLen tbx 49 v15 fun v16 =>
 jp (fun (s17 : VT [0, 2, 4, 6, 8]) h n =>
 pc s17 fun v19 s20 =>
 pc s20 fun v21 s22 =>
 pc s22 fun v23 s24 =>
 pc s24 fun v25 s26 =>
 pc s26 fun v27 s28 =>
 cf 165 [v19, v27] h n fun v29 h n =>
 evBin2 tbx .neq 33 v29 (.i .i64 0) fun v30 =>
 brB v30 (
 evBuild tbx 51 [] fun v31 =>
 evStore tbx 51 v25 v31 h n fun _ h n =>
 evLoad tbx 51 v25 h fun v32 =>
 k (.tp [v32, v29]) h n) (
 evLoad tbx 51 v23 h fun v33 =>
 cf 267 [v33, v21] h n fun v34 h n =>
 evExt 0 v34 fun v35 =>
 evExt 1 v34 fun v36 =>
 evStore tbx 51 v25 v35 h n fun _ h n =>
 evLoad tbx 51 v25 h fun v37 =>
 k (.tp [v37, v36]) h n)) fun kk18 =>
 lpC [0, 2, 4, 6, 8, 24, 25] (fun lo39 s38 h n =>
 pc s38 fun v40 s41 =>
 pc s41 fun v42 s43 =>
 pc s43 fun v44 s45 =>
 pc s45 fun v46 s47 =>
 pc s47 fun v48 s49 =>
 pc s49 fun v50 s51 =>
 pc s51 fun v52 s53 =>
 evBin2 tbx .lss 3 v52 v50 fun v54 =>
 brB v54 (
 jp (fun (s55 : VT [0, 2, 4, 6, 8, 24, 25]) h n =>
 pc s55 fun v57 s58 =>
 pc s58 fun v59 s60 =>
 pc s60 fun v61 s62 =>
 pc s62 fun v63 s64 =>
 pc s64 fun v65 s66 =>
 pc s66 fun v67 s68 =>
 pc s68 fun v69 s70 =>
 evBin2 tbx .add 3 v69 (.i .i64 1) fun v71 =>
 lo39 (v57, v59, v61, v63, v65, v67, v71, ()) h n) fun kk56 =>
 evFa tbx 51 7 v44 fun v72 =>
 evLoad tbx 49 v72 h fun v73 =>
 evIa tbx 49 v73 v52 fun v74 =>
 evFa tbx 63 0 v74 fun v75 =>
 evFa tbx 51 7 v44 fun v76 =>
 evLoad tbx 49 v76 h fun v77 =>
 evIa tbx 49 v77 v52 fun v78 =>
 evFa tbx 63 1 v78 fun v79 =>
 evLoad tbx 49 v72 h fun w83 => cond (eqV 6 w83 v73) (
 evLoad tbx 49 v76 h fun w82 => cond (eqV 6 w82 v77) (
 evBuildSl tbx 278 2 [(0, v75), (1, v79)] h n fun v80 h n =>
 evApp tbx 278 278 v48 v80 h n fun v81 h n =>
 kk56 (v40, v42, v44, v46, v81, v50, v52, ()) h n) none) none) (
 kk18 (v40, v42, v44, v46, v48, ()) h n)) fu (a0, a2, v1, v2, v13, v16, (.i .i64 0), ()) h n
noncomputable def e221 : FE := ⟨Tryz.f221, bd Tryz.f221, [0, 1, 2], [6, 7], (.q .z (.q .z (.q .z (.q (.q .z (.b [0, 2, 4, 6, 8] (.l [0, 2, 4, 6, 8, 24, 25] (.q .z (.q (.c .z .z) (.q (.b [0, 2, 4, 6, 8, 24, 25] (.q .z .z)) .z)))))) (.q (.q .z (.q .z (.c (.q .z .z) .z))) (.q .z .z))))))⟩
theorem q221 (fu : Nat) (cf : CF) (a0 a1 a2 : V) (h : H) (n : Id) (k : KV) : evF fu cf e221 [a0, a1, a2] h n k = s221 fu cf a0 a1 a2 h n k := by kernel_rfl
theorem p221 : PfOk Tryz.prog tbx mtab 221 (w3 (s221 fuX)) := pfo e221 Tryz.func221 (by kernel_rfl) (w3_ok (q221 fuX))
noncomputable def s222 (fu : Nat) (cf : CF) (a0 a1 : V) (h : H) (n : Id) (k : KV) : R :=
 evLen tbx 30 a0 fun v1 =>
 jp (fun (s2 : VT []) h n =>
 k (.i .i64 (-1)) h n) fun kk3 =>
 lpC [0, 1, 7, 8] (fun lo5 s4 h n =>
 pc s4 fun v6 s7 =>
 pc s7 fun v8 s9 =>
 pc s9 fun v10 s11 =>
 pc s11 fun v12 s13 =>
 evBin2 tbx .lss 3 v12 v10 fun v14 =>
 brB v14 (
 jp (fun (s15 : VT [0, 1, 7, 8]) h n =>
 pc s15 fun v17 s18 =>
 pc s18 fun v19 s20 =>
 pc s20 fun v21 s22 =>
 pc s22 fun v23 s24 =>
 evBin2 tbx .add 3 v23 (.i .i64 1) fun v25 =>
 lo5 (v17, v19, v21, v25, ()) h n) fun kk16 =>
 evIa tbx 30 v6 v12 fun v26 =>
 evLoad tbx 51 v26 h fun v27 =>
 evCall cf v8 [v27] h n fun v28 h n =>
 brB v28 (
 k v12 h n) (
 kk16 (v6, v8, v10, v12, ()) h n)) (
 kk3 (()) h n)) fu (a0, a1, v1, (.i .i64 0), ()) h n
noncomputable def e222 : FE := ⟨Tryz.f222, bd Tryz.f222, [0, 1], [4], (.q .z (.q (.q .z (.b [] (.l [0, 1, 7, 8] (.q .z (.q (.c .z .z) (.q (.b [0, 1, 7, 8] (.q .z (.q .z (.c (.q .z .z) .z)))) .z)))))) (.q .z .z)))⟩
theorem q222 (fu : Nat) (cf : CF) (a0 a1 : V) (h : H) (n : Id) (k : KV) : evF fu cf e222 [a0, a1] h n k = s222 fu cf a0 a1 h n k := by kernel_rfl
theorem p222 : PfOk Tryz.prog tbx mtab 222 (w2 (s222 fuX)) := pfo e222 Tryz.func222 (by kernel_rfl) (w2_ok (q222 fuX))
noncomputable def s223 (fu : Nat) (cf : CF) (a0 a1 : V) (h : H) (n : Id) (k : KV) : R :=
 evLen tbx 9 a0 fun v1 =>
 evLen tbx 9 a1 fun v2 =>
 evBin2 tbx .geq 3 v1 v2 fun v3 =>
 jp (fun (v4 : V) h n =>
 jp (fun (v6 : V) h n =>
 jp (fun (v8 : V) h n =>
 jp (fun (v10 : V) h n =>
 jp (fun (v12 : V) h n =>
 jp (fun (v14 : V) h n =>
 evPick v3 v14 (.b false) fun v16 =>
 k v16 h n) fun kk15 =>
 gdB v3 true ((evBin2 tbx .eql 9 v10 v12 fun v => kk15 v h n)) (kk15 (.tp []) h n)) fun kk13 =>
 gdB v3 true (kk13 a1 h n) (kk13 (.tp []) h n)) fun kk11 =>
 gdB v3 true ((evSlc tbx 9 v4 none (some v8) fun v => kk11 v h n)) (kk11 (.tp []) h n)) fun kk9 =>
 gdB v3 true ((evLen tbx 9 v6 fun v => kk9 v h n)) (kk9 (.tp []) h n)) fun kk7 =>
 gdB v3 true (kk7 a1 h n) (kk7 (.tp []) h n)) fun kk5 =>
 gdB v3 true (kk5 a0 h n) (kk5 (.tp []) h n)
noncomputable def e223 : FE := ⟨Tryz.f223, bd Tryz.f223, [0, 1], [4], (.q .z (.q .z .z))⟩
theorem q223 (fu : Nat) (cf : CF) (a0 a1 : V) (h : H) (n : Id) (k : KV) : evF fu cf e223 [a0, a1] h n k = s223 fu cf a0 a1 h n k := by kernel_rfl
theorem p223 : PfOk Tryz.prog tbx mtab 223 (w2 (s223 fuX)) := pfo e223 Tryz.func223 (by kernel_rfl) (w2_ok (q223 fuX))
noncomputable def s225 (fu : Nat) (cf : CF) (a0 a1 : V) (h : H) (n : Id) (k : KV) : R :=
 cf 271 [a0, a1] h n fun v1 h n =>
 evExt 0 v1 fun v2 =>
 evExt 1 v1 fun v3 =>
 evExt 2 v1 fun v4 =>
 k (.tp [v2, v3, v4]) h n
noncomputable def e225 : FE := ⟨Tryz.f225, bd Tryz.f225, [0, 1], [4, 5, 6], (.q .z (.q .z .z))⟩
theorem q225 (fu : Nat) (cf : CF) (a0 a1 : V) (h : H) (n : Id) (k : KV) : evF fu cf e225 [a0, a1] h n k = s225 fu cf a0 a1 h n k := by kernel_rfl
theorem p225 : PfOk Tryz.prog tbx mtab 225 (w2 (s225 fuX)) := pfo e225 Tryz.func225 (by kernel_rfl) (w2_ok (q225 fuX))
noncomputable def s226 (fu : Nat) (cf : CF) (a0 a1 : V) (h : H) (n : Id) (k : KV) : R :=
 evBin2 tbx .eql 9 a0 (.s 0 0) fun v1 =>
 jp (fun (v2 : V) h n =>
 jp (fun (v4 : V) h n =>
 evPick v1 (.b true) v4 fun v6 =>
 brB v6 (
 k a0 h n) (
 evLen tbx 9 a1 fun v7 =>
 evBin2 tbx .eql 3 v7 (.i .i64 1) fun v8 =>
 jp (fun (v9 : V) h n =>
 jp (fun (v11 : V) h n =>
 jp (fun (v13 : V) h n =>
 evPick v8 v13 (.b false) fun v15 =>
 brB v15 (
 evIx tbx 9 a1 (.i .i64 0) fun v16 =>
 evIx tbx 9 a1 (.i .i64 0) fun v17 =>
 cf 272 [a0, v16] h n fun v18 h n =>
 cf 237 [v18, v17] h n fun v19 h n =>
 k v19 h n) (
 cf 238 [a1] h n fun v20 h n =>
 evExt 0 v20 fun v21 =>
 evExt 1 v20 fun v22 =>
 evAlloc tbx 293 h n fun v23 h n =>
 evStore tbx 293 v23 v21 h n fun _ h n =>
 brB v22 (
 cf 273 [a0, v23] h n fun v24 h n =>
 cf 239 [v24, v23] h n fun v25 h n =>
 k v25 h n) (
 cf 274 [a0, a1] h n fun v26 h n =>
 cf 240 [v26, a1] h n fun v27 h n =>
 k v27 h n))) fun kk14 =>
 gdB v8 true ((evBin2 tbx .lss 5 v11 (.i .u8 128) fun v => kk14 v h n)) (kk14 (.tp []) h n)) fun kk12 =>
 gdB v8 true ((evIx tbx 9 v9 (.i .i64 0) fun v => kk12 v h n)) (kk12 (.tp []) h n)) fun kk10 =>
 gdB v8 true (kk10 a1 h n) (kk10 (.tp []) h n))) fun kk5 =>
 gdB v1 false ((evBin2 tbx .eql 9 v2 (.s 0 0) fun v => kk5 v h n)) (kk5 (.tp []) h n)) fun kk3 =>
 gdB v1 false (kk3 a1 h n) (kk3 (.tp []) h n)
noncomputable def e226 : FE := ⟨Tryz.f226, bd Tryz.f226, [0, 1], [4], (.q .z (.q (.q .z (.c (.q .z .z) .z)) (.q (.q .z (.c (.q .z .z) .z)) (.q (.q .z (.q .z (.c (.q .z .z) .z))) (.q .z .z)))))⟩
theorem q226 (fu : Nat) (cf : CF) (a0 a1 : V) (h : H) (n : Id) (k : KV) : evF fu cf e226 [a0, a1] h n k = s226 fu cf a0 a1 h n k := by kernel_rfl
theorem p226 : PfOk Tryz.prog tbx mtab 226 (w2 (s226 fuX)) := pfo e226 Tryz.func226 (by kernel_rfl) (w2_ok (q226 fuX))
end Go.Proofs.Nw.X
end
