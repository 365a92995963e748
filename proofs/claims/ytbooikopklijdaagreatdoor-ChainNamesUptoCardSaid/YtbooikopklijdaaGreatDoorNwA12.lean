/- Bundle 12: NwXH3. -/
import Derived.Test.YtbooikopklijdaaGreatDoorNwA11
set_option linter.constructorNameAsVariable false
set_option linter.unusedVariables false
set_option linter.unusedSimpArgs false
set_option linter.unusedSectionVars false
section
/- printed by xg.py: seat F's functions, 3. -/
open Go Go.RowKit Go.Proofs
set_option linter.unusedVariables false
set_option maxRecDepth 100000
namespace Go.Proofs.Nw.X
open Go.Proofs.Nw.K
-- newel/pom.behind
noncomputable def s104 (fu : Nat) (cf : CF) (a0 a1 : V) (h : H) (n : Id) (k : KV) : R :=
 evBin2 tbx .neq 33 a0 (.i .i64 0) fun v1 =>
 brB v1 (
 k a0 h n) (
 cf 158 [a1] h n fun v2 h n =>
 k v2 h n)
theorem q104 (fu : Nat) (cf : CF) (a0 a1 : V) (h : H) (n : Id) (k : KV) : evFn tbx mtab (fun cf _ => drF tbx mtab cf) fu cf ⟨Tryz.f104, bd Tryz.f104, [0, 1], [4], (.q .z (.q (.q .z (.c (.q .z .z) .z)) (.q .z .z)))⟩ [a0, a1] h n k = s104 fu cf a0 a1 h n k := by kernel_rfl
theorem p104 : PfOk Tryz.prog tbx mtab 104 (w2 (s104 fuX)) := pfo ⟨Tryz.f104, bd Tryz.f104, [0, 1], [4], (.q .z (.q (.q .z (.c (.q .z .z) .z)) (.q .z .z)))⟩ Tryz.func104 (by kernel_rfl) (by kernel_rfl) (by kernel_rfl) (by kernel_rfl) (w2_ok fun cf a0 a1 h n k => q104 fuX cf a0 a1 h n k)
-- newel/newelref01.Digit
noncomputable def s123 (fu : Nat) (cf : CF) (a0 : V) (h : H) (n : Id) (k : KV) : R :=
 evBin2 tbx .geq 5 a0 (.i .u8 48) fun v1 =>
 jp (fun (v2 : V) (h : H) (n : Id) =>
 jp (fun (v4 : V) (h : H) (n : Id) =>
 evPick v1 v4 (.b false) fun v6 =>
 k v6 h n) fun kk5 =>
 gdB v1 true ((evBin2 tbx .leq 5 v2 (.i .u8 57) fun v => kk5 v h n)) (kk5 (.tp []) h n)) fun kk3 =>
 gdB v1 true (kk3 a0 h n) (kk3 (.tp []) h n)
theorem q123 (fu : Nat) (cf : CF) (a0 : V) (h : H) (n : Id) (k : KV) : evFn tbx mtab (fun cf _ => drF tbx mtab cf) fu cf ⟨Tryz.f123, bd Tryz.f123, [0], [2], (.q .z (.q .z .z))⟩ [a0] h n k = s123 fu cf a0 h n k := by kernel_rfl
theorem p123 : PfOk Tryz.prog tbx mtab 123 (w1 (s123 fuX)) := pfo ⟨Tryz.f123, bd Tryz.f123, [0], [2], (.q .z (.q .z .z))⟩ Tryz.func123 (by kernel_rfl) (by kernel_rfl) (by kernel_rfl) (by kernel_rfl) (w1_ok fun cf a0 h n k => q123 fuX cf a0 h n k)
-- newel/newelref01.Space
noncomputable def s124 (fu : Nat) (cf : CF) (a0 : V) (h : H) (n : Id) (k : KV) : R :=
 evBin2 tbx .eql 5 a0 (.i .u8 9) fun v1 =>
 jp (fun (v2 : V) (h : H) (n : Id) =>
 jp (fun (v4 : V) (h : H) (n : Id) =>
 evPick v1 (.b true) v4 fun v6 =>
 jp (fun (v7 : V) (h : H) (n : Id) =>
 jp (fun (v9 : V) (h : H) (n : Id) =>
 evPick v6 (.b true) v9 fun v11 =>
 jp (fun (v12 : V) (h : H) (n : Id) =>
 jp (fun (v14 : V) (h : H) (n : Id) =>
 evPick v11 (.b true) v14 fun v16 =>
 k v16 h n) fun kk15 =>
 gdB v11 false ((evBin2 tbx .eql 5 v12 (.i .u8 32) fun v => kk15 v h n)) (kk15 (.tp []) h n)) fun kk13 =>
 gdB v11 false (kk13 a0 h n) (kk13 (.tp []) h n)) fun kk10 =>
 gdB v6 false ((evBin2 tbx .eql 5 v7 (.i .u8 13) fun v => kk10 v h n)) (kk10 (.tp []) h n)) fun kk8 =>
 gdB v6 false (kk8 a0 h n) (kk8 (.tp []) h n)) fun kk5 =>
 gdB v1 false ((evBin2 tbx .eql 5 v2 (.i .u8 10) fun v => kk5 v h n)) (kk5 (.tp []) h n)) fun kk3 =>
 gdB v1 false (kk3 a0 h n) (kk3 (.tp []) h n)
theorem q124 (fu : Nat) (cf : CF) (a0 : V) (h : H) (n : Id) (k : KV) : evFn tbx mtab (fun cf _ => drF tbx mtab cf) fu cf ⟨Tryz.f124, bd Tryz.f124, [0], [2], (.q .z (.q .z .z))⟩ [a0] h n k = s124 fu cf a0 h n k := by kernel_rfl
theorem p124 : PfOk Tryz.prog tbx mtab 124 (w1 (s124 fuX)) := pfo ⟨Tryz.f124, bd Tryz.f124, [0], [2], (.q .z (.q .z .z))⟩ Tryz.func124 (by kernel_rfl) (by kernel_rfl) (by kernel_rfl) (by kernel_rfl) (w1_ok fun cf a0 h n k => q124 fuX cf a0 h n k)
-- slices.medianCmpFunc[newel/api.Coord]
noncomputable def s129 (fu : Nat) (cf : CF) (a0 a1 a2 a3 a4 a5 : V) (h : H) (n : Id) (k : KV) : R :=
 cf 186 [a0, a1, a2, a4, a5] h n fun v1 h n =>
 evExt 0 v1 fun v2 =>
 evExt 1 v1 fun v3 =>
 cf 186 [a0, v3, a3, a4, a5] h n fun v4 h n =>
 evExt 0 v4 fun v5 =>
 evExt 1 v4 fun v6 =>
 cf 186 [a0, v2, v5, a4, a5] h n fun v7 h n =>
 evExt 0 v7 fun v8 =>
 evExt 1 v7 fun v9 =>
 k v9 h n
theorem q129 (fu : Nat) (cf : CF) (a0 a1 a2 a3 a4 a5 : V) (h : H) (n : Id) (k : KV) : evFn tbx mtab (fun cf _ => drF tbx mtab cf) fu cf ⟨Tryz.f129, bd Tryz.f129, [0, 1, 2, 3, 4, 5], [12], (.q .z (.q .z (.q .z (.q .z (.q .z .z)))))⟩ [a0, a1, a2, a3, a4, a5] h n k = s129 fu cf a0 a1 a2 a3 a4 a5 h n k := by kernel_rfl
theorem p129 : PfOk Tryz.prog tbx mtab 129 (w6 (s129 fuX)) := pfo ⟨Tryz.f129, bd Tryz.f129, [0, 1, 2, 3, 4, 5], [12], (.q .z (.q .z (.q .z (.q .z (.q .z .z)))))⟩ Tryz.func129 (by kernel_rfl) (by kernel_rfl) (by kernel_rfl) (by kernel_rfl) (w6_ok fun cf a0 a1 a2 a3 a4 a5 h n k => q129 fuX cf a0 a1 a2 a3 a4 a5 h n k)
-- newel/order.word
noncomputable def s130 (fu : Nat) (cf : CF) (a0 a1 : V) (h : H) (n : Id) (k : KV) : R :=
 evBox a0 h n fun v1 h n =>
 evBox a1 h n fun v2 h n =>
 evFa tbx 203 0 v1 fun v3 =>
 evLoad tbx 3 v3 h fun v4 =>
 evFa tbx 203 0 v2 fun v5 =>
 evLoad tbx 3 v5 h fun v6 =>
 cf 187 [v4, v6] h n fun v7 h n =>
 evBin2 tbx .neq 3 v7 (.i .i64 0) fun v8 =>
 brB v8 (
 k v7 h n) (
 evFa tbx 203 0 v1 fun v9 =>
 evLoad tbx 3 v9 h fun v10 =>
 jp (fun (s11 : VT []) (h : H) (n : Id) =>
 k (.i .i64 0) h n) fun kk12 =>
 evBin2 tbx .eql 3 v10 (.i .i64 8) fun v13 =>
 brB v13 (
 evFa tbx 203 1 v1 fun v14 =>
 evLoad tbx 9 v14 h fun v15 =>
 evFa tbx 203 1 v2 fun v16 =>
 evLoad tbx 9 v16 h fun v17 =>
 cf 56 [v15, v17] h n fun v18 h n =>
 k v18 h n) (
 jp (fun (s19 : VT [2, 3, 23]) (h : H) (n : Id) =>
 pc s19 fun v21 s22 =>
 pc s22 fun v23 s24 =>
 pc s24 fun v25 s26 =>
 brB v25 (
 evFa tbx 203 1 v21 fun v27 =>
 evLoad tbx 9 v27 h fun v28 =>
 evLen tbx 9 v28 fun v29 =>
 evFa tbx 203 1 v23 fun v30 =>
 evLoad tbx 9 v30 h fun v31 =>
 evLen tbx 9 v31 fun v32 =>
 evFa tbx 203 1 v21 fun v33 =>
 evLoad tbx 9 v33 h fun v34 =>
 evFa tbx 203 1 v23 fun v35 =>
 evLoad tbx 9 v35 h fun v36 =>
 evLoad tbx 9 v27 h fun w46 => cond (eqV 6 w46 v28) (
 evLoad tbx 9 v30 h fun w45 => cond (eqV 6 w45 v31) (
 evLoad tbx 9 v33 h fun w44 => cond (eqV 6 w44 v34) (
 evLoad tbx 9 v35 h fun w43 => cond (eqV 6 w43 v36) (
 cf 187 [v29, v32] h n fun v37 h n =>
 evLoad tbx 9 v33 h fun w42 => cond (eqV 6 w42 v34) (
 evLoad tbx 9 v35 h fun w41 => cond (eqV 6 w41 v36) (
 cf 56 [v34, v36] h n fun v38 h n =>
 evBuildSl tbx 149 2 [(0, v37), (1, v38)] h n fun v39 h n =>
 cf 55 [v39] h n fun v40 h n =>
 k v40 h n) none) none) none) none) none) none) (
 kk12 (()) h n)) fun kk20 =>
 evBin2 tbx .eql 3 v10 (.i .i64 9) fun v47 =>
 brB v47 (
 kk20 (v1, v2, v47, ()) h n) (
 evBin2 tbx .eql 3 v10 (.i .i64 10) fun v48 =>
 kk20 (v1, v2, v48, ()) h n)))
theorem q130 (fu : Nat) (cf : CF) (a0 a1 : V) (h : H) (n : Id) (k : KV) : evFn tbx mtab (fun cf _ => drF tbx mtab cf) fu cf ⟨Tryz.f130, bd Tryz.f130, [0, 1], [4], (.q .z (.q (.q .z (.q .z (.c (.q .z .z) .z))) (.q (.q .z (.b [] (.q .z (.c (.q .z .z) (.s [2, 3, 23] (.q .z (.c .z .z)) (.c (.q .z .z) .z)))))) (.q .z .z))))⟩ [a0, a1] h n k = s130 fu cf a0 a1 h n k := by kernel_rfl
theorem p130 : PfOk Tryz.prog tbx mtab 130 (w2 (s130 fuX)) := pfo ⟨Tryz.f130, bd Tryz.f130, [0, 1], [4], (.q .z (.q (.q .z (.q .z (.c (.q .z .z) .z))) (.q (.q .z (.b [] (.q .z (.c (.q .z .z) (.s [2, 3, 23] (.q .z (.c .z .z)) (.c (.q .z .z) .z)))))) (.q .z .z))))⟩ Tryz.func130 (by kernel_rfl) (by kernel_rfl) (by kernel_rfl) (by kernel_rfl) (w2_ok fun cf a0 a1 h n k => q130 fuX cf a0 a1 h n k)
-- newel/order.at
noncomputable def s131 (fu : Nat) (cf : CF) (a0 a1 : V) (h : H) (n : Id) (k : KV) : R :=
 evAlloc tbx 203 h n fun v1 h n =>
 evLen tbx 151 a0 fun v2 =>
 evBin2 tbx .lss 3 a1 v2 fun v3 =>
 brB v3 (
 evIa tbx 151 a0 a1 fun v4 =>
 evLoad tbx 203 v4 h fun v5 =>
 evStore tbx 203 v1 v5 h n fun _ h n =>
 evLoad tbx 203 v1 h fun v6 =>
 k v6 h n) (
 evBuild tbx 203 [(0, (.i .i64 6))] fun v7 =>
 evStore tbx 203 v1 v7 h n fun _ h n =>
 evLoad tbx 203 v1 h fun v8 =>
 k v8 h n)
theorem q131 (fu : Nat) (cf : CF) (a0 a1 : V) (h : H) (n : Id) (k : KV) : evFn tbx mtab (fun cf _ => drF tbx mtab cf) fu cf ⟨Tryz.f131, bd Tryz.f131, [0, 1], [4], (.q .z (.q (.q .z (.c (.q .z .z) .z)) (.q .z .z)))⟩ [a0, a1] h n k = s131 fu cf a0 a1 h n k := by kernel_rfl
theorem p131 : PfOk Tryz.prog tbx mtab 131 (w2 (s131 fuX)) := pfo ⟨Tryz.f131, bd Tryz.f131, [0, 1], [4], (.q .z (.q (.q .z (.c (.q .z .z) .z)) (.q .z .z)))⟩ Tryz.func131 (by kernel_rfl) (by kernel_rfl) (by kernel_rfl) (by kernel_rfl) (w2_ok fun cf a0 a1 h n k => q131 fuX cf a0 a1 h n k)
-- newel/words.parts
noncomputable def s132 (fu : Nat) (cf : CF) (a0 : V) (h : H) (n : Id) (k : KV) : R :=
 evBuild tbx 210 [] fun v1 =>
 evBuildSl tbx 205 1 [(0, v1)] h n fun v2 h n =>
 evLen tbx 9 a0 fun v3 =>
 jp (fun (s4 : VT [3]) (h : H) (n : Id) =>
 pc s4 fun v6 s7 =>
 k v6 h n) fun kk5 =>
 lpC [0, 3, 10, 11] (fun lo9 s8 h n =>
 pc s8 fun v10 s11 =>
 pc s11 fun v12 s13 =>
 pc s13 fun v14 s15 =>
 pc s15 fun v16 s17 =>
 evBin2 tbx .lss 3 v16 v14 fun v18 =>
 brB v18 (
 jp (fun (s19 : VT [0, 3, 10, 11]) (h : H) (n : Id) =>
 pc s19 fun v21 s22 =>
 pc s22 fun v23 s24 =>
 pc s24 fun v25 s26 =>
 pc s26 fun v27 s28 =>
 evBin2 tbx .add 3 v27 (.i .i64 1) fun v29 =>
 lo9 (v21, v23, v25, v29, ()) h n) fun kk20 =>
 evIx tbx 9 v10 v16 fun v30 =>
 evLen tbx 205 v12 fun v31 =>
 evBin2 tbx .sub 3 v31 (.i .i64 1) fun v32 =>
 evIa tbx 205 v12 v32 fun v33 =>
 jp (fun (s34 : VT [0, 3, 5, 6, 10, 11]) (h : H) (n : Id) =>
 pc s34 fun v36 s37 =>
 pc s37 fun v38 s39 =>
 pc s39 fun v40 s41 =>
 pc s41 fun v42 s43 =>
 pc s43 fun v44 s45 =>
 pc s45 fun v46 s47 =>
 evNc' v42 fun v48 =>
 evFa tbx 210 0 v48 fun v49 =>
 evLoad tbx 9 v49 h fun v50 =>
 evLoad tbx 9 v49 h fun w58 => cond (eqV 6 w58 v50) (
 evBuildSl tbx 73 1 [(0, v40)] h n fun v51 h n =>
 evRc tbx 73 9 v51 h fun v52 =>
 evBin2 tbx .add 9 v50 v52 fun v53 =>
 evNc' v42 fun v54 =>
 evFa tbx 210 0 v54 fun v55 =>
 evLoad tbx 9 v49 h fun w57 => cond (eqV 6 w57 v50) (
 evRc tbx 73 9 v51 h fun w56 => cond (eqV 6 w56 v52) (
 evStore tbx 9 v55 v53 h n fun _ h n =>
 kk20 (v36, v38, v44, v46, ()) h n) none) none) none) fun kk35 =>
 evBin2 tbx .eql 5 v30 (.i .u8 46) fun v59 =>
 jp (fun (v60 : V) (h : H) (n : Id) =>
 jp (fun (v62 : V) (h : H) (n : Id) =>
 evPick v59 (.b true) v62 fun v64 =>
 brB v64 (
 evBin2 tbx .eql 5 v30 (.i .u8 45) fun v65 =>
 evBuild tbx 210 [(1, v65)] fun v66 =>
 evBuildSl tbx 205 1 [(0, v66)] h n fun v67 h n =>
 evApp tbx 205 205 v12 v67 h n fun v68 h n =>
 kk20 (v10, v68, v14, v16, ()) h n) (
 evNc' v33 fun v69 =>
 evFa tbx 210 0 v69 fun v70 =>
 evLoad tbx 9 v70 h fun v71 =>
 evBin2 tbx .neq 9 v71 (.s 0 0) fun v72 =>
 jp (fun (v73 : V) (h : H) (n : Id) =>
 jp (fun (v75 : V) (h : H) (n : Id) =>
 jp (fun (v77 : V) (h : H) (n : Id) =>
 jp (fun (v79 : V) (h : H) (n : Id) =>
 jp (fun (v81 : V) (h : H) (n : Id) =>
 evLoad tbx 9 v70 h fun w99 => cond (eqV 6 w99 v71) (
 jp (fun (v83 : V) (h : H) (n : Id) =>
 jp (fun (v85 : V) (h : H) (n : Id) =>
 jp (fun (v87 : V) (h : H) (n : Id) =>
 evPick v72 v87 (.b false) fun v89 =>
 brB v89 (
 cf 188 [v30] h n fun v90 h n =>
 evNc' v33 fun v91 =>
 evFa tbx 210 2 v91 fun v92 =>
 evStore tbx 4 v92 v90 h n fun _ h n =>
 evBuild tbx 210 [(1, (.b true))] fun v93 =>
 evBuildSl tbx 205 1 [(0, v93)] h n fun v94 h n =>
 evApp tbx 205 205 v12 v94 h n fun v95 h n =>
 evLen tbx 205 v95 fun v96 =>
 evBin2 tbx .sub 3 v96 (.i .i64 1) fun v97 =>
 evIa tbx 205 v95 v97 fun v98 =>
 kk35 (v10, v95, v30, v98, v14, v16, ()) h n) (
 kk35 (v10, v12, v30, v33, v14, v16, ()) h n)) fun kk88 =>
 wsB (wV v72 true) ((evBin2 tbx .neq 4 v83 v85 fun v => kk88 v h n)) (kk88 (.tp []) h n)) fun kk86 =>
 wsB (wV v72 true) ((cf 188 [v81] h n kk86)) (kk86 (.tp []) h n)) fun kk84 =>
 wsB (wV v72 true) ((cf 188 [v73] h n kk84)) (kk84 (.tp []) h n)) none) fun kk82 =>
 wsB (wV v72 true) ((evIx tbx 9 v75 v79 fun v => kk82 v h n)) (kk82 (.tp []) h n)) fun kk80 =>
 wsB (wV v72 true) ((evBin2 tbx .sub 3 v77 (.i .i64 1) fun v => kk80 v h n)) (kk80 (.tp []) h n)) fun kk78 =>
 wsB (wV v72 true) (kk78 v16 h n) (kk78 (.tp []) h n)) fun kk76 =>
 wsB (wV v72 true) (kk76 v10 h n) (kk76 (.tp []) h n)) fun kk74 =>
 wsB (wV v72 true) (kk74 v30 h n) (kk74 (.tp []) h n))) fun kk63 =>
 gdB v59 false ((evBin2 tbx .eql 5 v60 (.i .u8 45) fun v => kk63 v h n)) (kk63 (.tp []) h n)) fun kk61 =>
 gdB v59 false (kk61 v30 h n) (kk61 (.tp []) h n)) (
 kk5 (v12, ()) h n)) fu (a0, v2, v3, (.i .i64 0), ()) h n
theorem q132 (fu : Nat) (cf : CF) (a0 : V) (h : H) (n : Id) (k : KV) : evFn tbx mtab (fun cf _ => drF tbx mtab cf) fu cf ⟨Tryz.f132, bd Tryz.f132, [0], [2], (.q .z (.q .z (.q (.q .z (.b [3] (.l [0, 3, 10, 11] (.q .z (.q (.c .z .z) (.q (.b [0, 3, 10, 11] (.q .z (.q .z (.q (.b [0, 3, 5, 6, 10, 11] (.q .z (.c (.q .z .z) (.q .z (.c (.q .z (.q .z .z)) .z))))) .z)))) .z)))))) (.q .z .z))))⟩ [a0] h n k = s132 fu cf a0 h n k := by kernel_rfl
theorem p132 : PfOk Tryz.prog tbx mtab 132 (w1 (s132 fuX)) := pfo ⟨Tryz.f132, bd Tryz.f132, [0], [2], (.q .z (.q .z (.q (.q .z (.b [3] (.l [0, 3, 10, 11] (.q .z (.q (.c .z .z) (.q (.b [0, 3, 10, 11] (.q .z (.q .z (.q (.b [0, 3, 5, 6, 10, 11] (.q .z (.c (.q .z .z) (.q .z (.c (.q .z (.q .z .z)) .z))))) .z)))) .z)))))) (.q .z .z))))⟩ Tryz.func132 (by kernel_rfl) (by kernel_rfl) (by kernel_rfl) (by kernel_rfl) (w1_ok fun cf a0 h n k => q132 fuX cf a0 h n k)
-- newel/chars.Lower
noncomputable def s133 (fu : Nat) (cf : CF) (a0 : V) (h : H) (n : Id) (k : KV) : R :=
 evConv2 tbx mtab 9 73 a0 h n fun v1 h n =>
 evLen tbx 73 v1 fun v2 =>
 jp (fun (s3 : VT [3]) (h : H) (n : Id) =>
 pc s3 fun v5 s6 =>
 evConv2 tbx mtab 73 9 v5 h n fun v7 h n =>
 k v7 h n) fun kk4 =>
 lpC [3, 8, 9, 10] (fun lo9 s8 h n =>
 pc s8 fun v10 s11 =>
 pc s11 fun v12 s13 =>
 pc s13 fun v14 s15 =>
 pc s15 fun v16 s17 =>
 evBin2 tbx .lss 3 v16 v14 fun v18 =>
 brB v18 (
 jp (fun (s19 : VT [3, 8, 9, 10]) (h : H) (n : Id) =>
 pc s19 fun v21 s22 =>
 pc s22 fun v23 s24 =>
 pc s24 fun v25 s26 =>
 pc s26 fun v27 s28 =>
 evBin2 tbx .add 3 v27 (.i .i64 1) fun v29 =>
 lo9 (v21, v23, v25, v29, ()) h n) fun kk20 =>
 evIa tbx 73 v12 v16 fun v30 =>
 evLoad tbx 5 v30 h fun v31 =>
 evBin2 tbx .geq 5 v31 (.i .u8 65) fun v32 =>
 jp (fun (v33 : V) (h : H) (n : Id) =>
 jp (fun (v35 : V) (h : H) (n : Id) =>
 evPick v32 v35 (.b false) fun v37 =>
 brB v37 (
 evBin2 tbx .sub 5 v31 (.i .u8 65) fun v38 =>
 evBin2 tbx .add 5 v38 (.i .u8 97) fun v39 =>
 evIa tbx 73 v10 v16 fun v40 =>
 evStore tbx 5 v40 v39 h n fun _ h n =>
 kk20 (v10, v12, v14, v16, ()) h n) (
 kk20 (v10, v12, v14, v16, ()) h n)) fun kk36 =>
 gdB v32 true ((evBin2 tbx .leq 5 v33 (.i .u8 90) fun v => kk36 v h n)) (kk36 (.tp []) h n)) fun kk34 =>
 gdB v32 true (kk34 v31 h n) (kk34 (.tp []) h n)) (
 kk4 (v10, ()) h n)) fu (v1, v1, v2, (.i .i64 0), ()) h n
theorem q133 (fu : Nat) (cf : CF) (a0 : V) (h : H) (n : Id) (k : KV) : evFn tbx mtab (fun cf _ => drF tbx mtab cf) fu cf ⟨Tryz.f133, bd Tryz.f133, [0], [2], (.q .z (.q .z (.q (.q .z (.b [3] (.l [3, 8, 9, 10] (.q .z (.q (.c .z .z) (.q (.b [3, 8, 9, 10] (.q .z (.q .z (.c .z .z)))) .z)))))) (.q .z .z))))⟩ [a0] h n k = s133 fu cf a0 h n k := by kernel_rfl
theorem p133 : PfOk Tryz.prog tbx mtab 133 (w1 (s133 fuX)) := pfo ⟨Tryz.f133, bd Tryz.f133, [0], [2], (.q .z (.q .z (.q (.q .z (.b [3] (.l [3, 8, 9, 10] (.q .z (.q (.c .z .z) (.q (.b [3, 8, 9, 10] (.q .z (.q .z (.c .z .z)))) .z)))))) (.q .z .z))))⟩ Tryz.func133 (by kernel_rfl) (by kernel_rfl) (by kernel_rfl) (by kernel_rfl) (w1_ok fun cf a0 h n k => q133 fuX cf a0 h n k)
-- slices.Reverse[[]newel/api.Word,newel/api.Word]
noncomputable def s134 (fu : Nat) (cf : CF) (a0 : V) (h : H) (n : Id) (k : KV) : R :=
 evLen tbx 151 a0 fun v1 =>
 evBin2 tbx .sub 3 v1 (.i .i64 1) fun v2 =>
 jp (fun (s3 : VT []) (h : H) (n : Id) =>
 k (.tp []) h n) fun kk4 =>
 lpC [0, 2, 3] (fun lo6 s5 h n =>
 pc s5 fun v7 s8 =>
 pc s8 fun v9 s10 =>
 pc s10 fun v11 s12 =>
 evBin2 tbx .lss 3 v9 v11 fun v13 =>
 brB v13 (
 jp (fun (s14 : VT [0, 2, 3]) (h : H) (n : Id) =>
 pc s14 fun v16 s17 =>
 pc s17 fun v18 s19 =>
 pc s19 fun v20 s21 =>
 evBin2 tbx .add 3 v18 (.i .i64 1) fun v22 =>
 evBin2 tbx .sub 3 v20 (.i .i64 1) fun v23 =>
 lo6 (v16, v22, v23, ()) h n) fun kk15 =>
 evIa tbx 151 v7 v11 fun v24 =>
 evLoad tbx 203 v24 h fun v25 =>
 evIa tbx 151 v7 v9 fun v26 =>
 evLoad tbx 203 v26 h fun v27 =>
 evIa tbx 151 v7 v9 fun v28 =>
 evLoad tbx 203 v24 h fun w31 => cond (eqV 6 w31 v25) (
 evLoad tbx 203 v26 h fun w30 => cond (eqV 6 w30 v27) (
 evStore tbx 203 v28 v25 h n fun _ h n =>
 evIa tbx 151 v7 v11 fun v29 =>
 evStore tbx 203 v29 v27 h n fun _ h n =>
 kk15 (v7, v9, v11, ()) h n) none) none) (
 kk4 (()) h n)) fu (a0, (.i .i64 0), v2, ()) h n
theorem q134 (fu : Nat) (cf : CF) (a0 : V) (h : H) (n : Id) (k : KV) : evFn tbx mtab (fun cf _ => drF tbx mtab cf) fu cf ⟨Tryz.f134, bd Tryz.f134, [0], [], (.q .z (.b [] (.l [0, 2, 3] (.q (.q .z (.c .z .z)) (.q (.b [0, 2, 3] .z) .z)))))⟩ [a0] h n k = s134 fu cf a0 h n k := by kernel_rfl
theorem p134 : PfOk Tryz.prog tbx mtab 134 (w1 (s134 fuX)) := pfo ⟨Tryz.f134, bd Tryz.f134, [0], [], (.q .z (.b [] (.l [0, 2, 3] (.q (.q .z (.c .z .z)) (.q (.b [0, 2, 3] .z) .z)))))⟩ Tryz.func134 (by kernel_rfl) (by kernel_rfl) (by kernel_rfl) (by kernel_rfl) (w1_ok fun cf a0 h n k => q134 fuX cf a0 h n k)
-- newel/words.word
noncomputable def s135 (fu : Nat) (cf : CF) (a0 : V) (h : H) (n : Id) (k : KV) : R :=
 evBox a0 h n fun v1 h n =>
 evAlloc tbx 203 h n fun v2 h n =>
 evFa tbx 210 0 v1 fun v3 =>
 evLoad tbx 9 v3 h fun v4 =>
 evBin2 tbx .neq 9 v4 (.s 0 0) fun v5 =>
 jp (fun (v6 : V) (h : H) (n : Id) =>
 jp (fun (v8 : V) (h : H) (n : Id) =>
 jp (fun (v10 : V) (h : H) (n : Id) =>
 jp (fun (v12 : V) (h : H) (n : Id) =>
 jp (fun (v14 : V) (h : H) (n : Id) =>
 evPick v5 v14 (.b false) fun v16 =>
 brB v16 (
 evLoad tbx 210 v1 h fun v17 =>
 cf 189 [v17] h n fun v18 h n =>
 evStore tbx 203 v2 v18 h n fun _ h n =>
 evLoad tbx 203 v2 h fun v19 =>
 k v19 h n) (
 evFa tbx 210 0 v1 fun v20 =>
 evLoad tbx 9 v20 h fun v21 =>
 cf 190 [v21, (.s 1 48)] h n fun v22 h n =>
 jp (fun (s23 : VT [2, 3]) (h : H) (n : Id) =>
 pc s23 fun v25 s26 =>
 pc s26 fun v27 s28 =>
 evBuild tbx 203 [(0, (.i .i64 10)), (1, v27)] fun v29 =>
 evStore tbx 203 v25 v29 h n fun _ h n =>
 evLoad tbx 203 v25 h fun v30 =>
 k v30 h n) fun kk24 =>
 evBin2 tbx .eql 9 v22 (.s 0 0) fun v31 =>
 brB v31 (
 evBuild tbx 203 [(0, (.i .i64 6))] fun v32 =>
 evStore tbx 203 v2 v32 h n fun _ h n =>
 evLoad tbx 203 v2 h fun v33 =>
 k v33 h n) (
 evFa tbx 210 1 v1 fun v34 =>
 evLoad tbx 4 v34 h fun v35 =>
 brB v35 (
 evBuild tbx 203 [(0, (.i .i64 9)), (1, v22)] fun v36 =>
 evStore tbx 203 v2 v36 h n fun _ h n =>
 evLoad tbx 203 v2 h fun v37 =>
 k v37 h n) (
 kk24 (v2, v22, ()) h n)))) fun kk15 =>
 gdB v5 true ((evUn .not v12 fun v => kk15 v h n)) (kk15 (.tp []) h n)) fun kk13 =>
 gdB v5 true ((cf 188 [v10] h n kk13)) (kk13 (.tp []) h n)) fun kk11 =>
 gdB v5 true ((evIx tbx 9 v8 (.i .i64 0) fun v => kk11 v h n)) (kk11 (.tp []) h n)) fun kk9 =>
 gdB v5 true ((evLoad tbx 9 v6 h fun v => kk9 v h n)) (kk9 (.tp []) h n)) fun kk7 =>
 gdB v5 true ((evFa tbx 210 0 v1 fun v => kk7 v h n)) (kk7 (.tp []) h n)
theorem q135 (fu : Nat) (cf : CF) (a0 : V) (h : H) (n : Id) (k : KV) : evFn tbx mtab (fun cf _ => drF tbx mtab cf) fu cf ⟨Tryz.f135, bd Tryz.f135, [0], [2], (.q .z (.q (.q .z (.c (.q .z .z) .z)) (.q .z (.q (.b [2, 3] (.q .z (.c (.q .z .z) (.q .z (.c (.q .z .z) .z))))) (.q .z .z)))))⟩ [a0] h n k = s135 fu cf a0 h n k := by kernel_rfl
theorem p135 : PfOk Tryz.prog tbx mtab 135 (w1 (s135 fuX)) := pfo ⟨Tryz.f135, bd Tryz.f135, [0], [2], (.q .z (.q (.q .z (.c (.q .z .z) .z)) (.q .z (.q (.b [2, 3] (.q .z (.c (.q .z .z) (.q .z (.c (.q .z .z) .z))))) (.q .z .z)))))⟩ Tryz.func135 (by kernel_rfl) (by kernel_rfl) (by kernel_rfl) (by kernel_rfl) (w1_ok fun cf a0 h n k => q135 fuX cf a0 h n k)
-- slices.IndexFunc[[]byte,byte]
noncomputable def s136 (fu : Nat) (cf : CF) (a0 a1 : V) (h : H) (n : Id) (k : KV) : R :=
 evLen tbx 73 a0 fun v1 =>
 jp (fun (s2 : VT []) (h : H) (n : Id) =>
 k (.i .i64 (-1)) h n) fun kk3 =>
 lpC [0, 1, 7, 8] (fun lo5 s4 h n =>
 pc s4 fun v6 s7 =>
 pc s7 fun v8 s9 =>
 pc s9 fun v10 s11 =>
 pc s11 fun v12 s13 =>
 evBin2 tbx .lss 3 v12 v10 fun v14 =>
 brB v14 (
 jp (fun (s15 : VT [0, 1, 7, 8]) (h : H) (n : Id) =>
 pc s15 fun v17 s18 =>
 pc s18 fun v19 s20 =>
 pc s20 fun v21 s22 =>
 pc s22 fun v23 s24 =>
 evBin2 tbx .add 3 v23 (.i .i64 1) fun v25 =>
 lo5 (v17, v19, v21, v25, ()) h n) fun kk16 =>
 evIa tbx 73 v6 v12 fun v26 =>
 evLoad tbx 5 v26 h fun v27 =>
 evCall cf v8 [v27] h n fun v28 h n =>
 brB v28 (
 k v12 h n) (
 kk16 (v6, v8, v10, v12, ()) h n)) (
 kk3 (()) h n)) fu (a0, a1, v1, (.i .i64 0), ()) h n
theorem q136 (fu : Nat) (cf : CF) (a0 a1 : V) (h : H) (n : Id) (k : KV) : evFn tbx mtab (fun cf _ => drF tbx mtab cf) fu cf ⟨Tryz.f136, bd Tryz.f136, [0, 1], [4], (.q .z (.q (.q .z (.b [] (.l [0, 1, 7, 8] (.q .z (.q (.c .z .z) (.q (.b [0, 1, 7, 8] (.q .z (.q .z (.c (.q .z .z) .z)))) .z)))))) (.q .z .z)))⟩ [a0, a1] h n k = s136 fu cf a0 a1 h n k := by kernel_rfl
theorem p136 : PfOk Tryz.prog tbx mtab 136 (w2 (s136 fuX)) := pfo ⟨Tryz.f136, bd Tryz.f136, [0, 1], [4], (.q .z (.q (.q .z (.b [] (.l [0, 1, 7, 8] (.q .z (.q (.c .z .z) (.q (.b [0, 1, 7, 8] (.q .z (.q .z (.c (.q .z .z) .z)))) .z)))))) (.q .z .z)))⟩ Tryz.func136 (by kernel_rfl) (by kernel_rfl) (by kernel_rfl) (by kernel_rfl) (w2_ok fun cf a0 a1 h n k => q136 fuX cf a0 a1 h n k)
-- internal/stringslite.IndexByte
noncomputable def s137 (fu : Nat) (cf : CF) (a0 a1 : V) (h : H) (n : Id) (k : KV) : R :=
 cf 191 [a0, a1] h n fun v1 h n =>
 k v1 h n
theorem q137 (fu : Nat) (cf : CF) (a0 a1 : V) (h : H) (n : Id) (k : KV) : evFn tbx mtab (fun cf _ => drF tbx mtab cf) fu cf ⟨Tryz.f137, bd Tryz.f137, [0, 1], [4], (.q .z (.q .z .z))⟩ [a0, a1] h n k = s137 fu cf a0 a1 h n k := by kernel_rfl
theorem p137 : PfOk Tryz.prog tbx mtab 137 (w2 (s137 fuX)) := pfo ⟨Tryz.f137, bd Tryz.f137, [0, 1], [4], (.q .z (.q .z .z))⟩ Tryz.func137 (by kernel_rfl) (by kernel_rfl) (by kernel_rfl) (by kernel_rfl) (w2_ok fun cf a0 a1 h n k => q137 fuX cf a0 a1 h n k)
-- newel/token.Split$1
noncomputable def s139 (fu : Nat) (cf : CF) (a0 : V) (h : H) (n : Id) (k : KV) : R :=
 cf 140 [a0] h n fun v1 h n =>
 evUn .not v1 fun v2 =>
 k v2 h n
theorem q139 (fu : Nat) (cf : CF) (a0 : V) (h : H) (n : Id) (k : KV) : evFn tbx mtab (fun cf _ => drF tbx mtab cf) fu cf ⟨Tryz.f139, bd Tryz.f139, [0], [2], (.q .z (.q .z .z))⟩ [a0] h n k = s139 fu cf a0 h n k := by kernel_rfl
theorem p139 : PfOk Tryz.prog tbx mtab 139 (w1 (s139 fuX)) := pfo ⟨Tryz.f139, bd Tryz.f139, [0], [2], (.q .z (.q .z .z))⟩ Tryz.func139 (by kernel_rfl) (by kernel_rfl) (by kernel_rfl) (by kernel_rfl) (w1_ok fun cf a0 h n k => q139 fuX cf a0 h n k)
-- newel/chars.Allowed
noncomputable def s140 (fu : Nat) (cf : CF) (a0 : V) (h : H) (n : Id) (k : KV) : R :=
 evBin2 tbx .gtr 5 a0 (.i .u8 32) fun v1 =>
 jp (fun (v2 : V) (h : H) (n : Id) =>
 jp (fun (v4 : V) (h : H) (n : Id) =>
 evPick v1 (.b true) v4 fun v6 =>
 k v6 h n) fun kk5 =>
 gdB v1 false ((cf 195 [v2] h n kk5)) (kk5 (.tp []) h n)) fun kk3 =>
 gdB v1 false (kk3 a0 h n) (kk3 (.tp []) h n)
theorem q140 (fu : Nat) (cf : CF) (a0 : V) (h : H) (n : Id) (k : KV) : evFn tbx mtab (fun cf _ => drF tbx mtab cf) fu cf ⟨Tryz.f140, bd Tryz.f140, [0], [2], (.q .z (.q .z .z))⟩ [a0] h n k = s140 fu cf a0 h n k := by kernel_rfl
theorem p140 : PfOk Tryz.prog tbx mtab 140 (w1 (s140 fuX)) := pfo ⟨Tryz.f140, bd Tryz.f140, [0], [2], (.q .z (.q .z .z))⟩ Tryz.func140 (by kernel_rfl) (by kernel_rfl) (by kernel_rfl) (by kernel_rfl) (w1_ok fun cf a0 h n k => q140 fuX cf a0 h n k)
-- (*newel/token.walk).next
noncomputable def s141 (fu : Nat) (cf : CF) (a0 a1 : V) (h : H) (n : Id) (k : KV) : R :=
 jp (fun (s1 : VT [0]) (h : H) (n : Id) =>
 pc s1 fun v3 s4 =>
 cf 202 [v3] h n fun v5 h n =>
 k v5 h n) fun kk2 =>
 cf 196 [a0, (.s 4 1008807213)] h n fun v6 h n =>
 brB v6 (
 cf 197 [a0] h n fun v7 h n =>
 k v7 h n) (
 cf 196 [a0, (.s 9 1109208233209138266459)] h n fun v8 h n =>
 brB v8 (
 cf 198 [a0] h n fun v9 h n =>
 k v9 h n) (
 cf 196 [a0, (.s 2 15423)] h n fun v10 h n =>
 brB v10 (
 cf 199 [a0, a1] h n fun v11 h n =>
 k v11 h n) (
 cf 196 [a0, (.s 2 15407)] h n fun v12 h n =>
 brB v12 (
 cf 200 [a0] h n fun v13 h n =>
 k v13 h n) (
 cf 196 [a0, (.s 1 60)] h n fun v14 h n =>
 brB v14 (
 cf 201 [a0] h n fun v15 h n =>
 k v15 h n) (
 kk2 (a0, ()) h n)))))
theorem q141 (fu : Nat) (cf : CF) (a0 a1 : V) (h : H) (n : Id) (k : KV) : evFn tbx mtab (fun cf _ => drF tbx mtab cf) fu cf ⟨Tryz.f141, bd Tryz.f141, [0, 1], [4], (.q .z (.q (.b [0] (.q .z (.c (.q .z .z) (.q .z (.c (.q .z .z) (.q .z (.c (.q .z .z) (.q .z (.c (.q .z .z) (.q .z (.c (.q .z .z) .z))))))))))) (.q .z .z)))⟩ [a0, a1] h n k = s141 fu cf a0 a1 h n k := by kernel_rfl
theorem p141 : PfOk Tryz.prog tbx mtab 141 (w2 (s141 fuX)) := pfo ⟨Tryz.f141, bd Tryz.f141, [0, 1], [4], (.q .z (.q (.b [0] (.q .z (.c (.q .z .z) (.q .z (.c (.q .z .z) (.q .z (.c (.q .z .z) (.q .z (.c (.q .z .z) (.q .z (.c (.q .z .z) .z))))))))))) (.q .z .z)))⟩ Tryz.func141 (by kernel_rfl) (by kernel_rfl) (by kernel_rfl) (by kernel_rfl) (w2_ok fun cf a0 a1 h n k => q141 fuX cf a0 a1 h n k)
-- (*newel/element.builder).take
noncomputable def s142 (fu : Nat) (cf : CF) (a0 a1 : V) (h : H) (n : Id) (k : KV) : R :=
 evBox a1 h n fun v1 h n =>
 evFa tbx 222 0 v1 fun v2 =>
 evLoad tbx 3 v2 h fun v3 =>
 jp (fun (s4 : VT []) (h : H) (n : Id) =>
 k (.i .i64 5) h n) fun kk5 =>
 jp (fun (s6 : VT [0, 3, 6, 7]) (h : H) (n : Id) =>
 pc s6 fun v8 s9 =>
 pc s9 fun v10 s11 =>
 pc s11 fun v12 s13 =>
 pc s13 fun v14 s15 =>
 brB v14 (
 k (.i .i64 0) h n) (
 evBin2 tbx .eql 3 v12 (.i .i64 1) fun v16 =>
 brB v16 (
 evLoad tbx 222 v10 h fun v17 =>
 cf 203 [v8, v17] h n fun v18 h n =>
 k v18 h n) (
 evBin2 tbx .eql 3 v12 (.i .i64 2) fun v19 =>
 brB v19 (
 evLoad tbx 222 v10 h fun v20 =>
 cf 204 [v8, v20] h n fun v21 h n =>
 k v21 h n) (
 evBin2 tbx .eql 3 v12 (.i .i64 3) fun v22 =>
 brB v22 (
 evFa tbx 222 2 v10 fun v23 =>
 evLoad tbx 9 v23 h fun v24 =>
 cf 205 [v8, v24] h n fun v25 h n =>
 k v25 h n) (
 kk5 (()) h n))))) fun kk7 =>
 evBin2 tbx .eql 3 v3 (.i .i64 4) fun v26 =>
 brB v26 (
 kk7 (a0, v1, v3, v26, ()) h n) (
 evBin2 tbx .eql 3 v3 (.i .i64 5) fun v27 =>
 kk7 (a0, v1, v3, v27, ()) h n)
theorem q142 (fu : Nat) (cf : CF) (a0 a1 : V) (h : H) (n : Id) (k : KV) : evFn tbx mtab (fun cf _ => drF tbx mtab cf) fu cf ⟨Tryz.f142, bd Tryz.f142, [0, 1], [4], (.q .z (.q (.q .z (.b [] (.s [0, 3, 6, 7] (.q .z (.c .z .z)) (.c (.q .z .z) (.q .z (.c (.q .z .z) (.q .z (.c (.q .z .z) (.q .z (.c (.q .z .z) .z)))))))))) (.q .z .z)))⟩ [a0, a1] h n k = s142 fu cf a0 a1 h n k := by kernel_rfl
theorem p142 : PfOk Tryz.prog tbx mtab 142 (w2 (s142 fuX)) := pfo ⟨Tryz.f142, bd Tryz.f142, [0, 1], [4], (.q .z (.q (.q .z (.b [] (.s [0, 3, 6, 7] (.q .z (.c .z .z)) (.c (.q .z .z) (.q .z (.c (.q .z .z) (.q .z (.c (.q .z .z) (.q .z (.c (.q .z .z) .z)))))))))) (.q .z .z)))⟩ Tryz.func142 (by kernel_rfl) (by kernel_rfl) (by kernel_rfl) (by kernel_rfl) (w2_ok fun cf a0 a1 h n k => q142 fuX cf a0 a1 h n k)
-- newel/markup.single
noncomputable def s143 (fu : Nat) (cf : CF) (a0 : V) (h : H) (n : Id) (k : KV) : R :=
 evBox a0 h n fun v1 h n =>
 evFa tbx 162 1 v1 fun v2 =>
 evLoad tbx 9 v2 h fun v3 =>
 evBin2 tbx .eql 9 v3 (.s 0 0) fun v4 =>
 brB v4 (
 evFa tbx 162 2 v1 fun v5 =>
 evLoad tbx 9 v5 h fun v6 =>
 evBin2 tbx .neq 9 v6 (.s 0 0) fun v7 =>
 jp (fun (v8 : V) (h : H) (n : Id) =>
 jp (fun (v10 : V) (h : H) (n : Id) =>
 jp (fun (v12 : V) (h : H) (n : Id) =>
 evPick v7 v12 (.b false) fun v14 =>
 jp (fun (v15 : V) (h : H) (n : Id) =>
 jp (fun (v17 : V) (h : H) (n : Id) =>
 jp (fun (v19 : V) (h : H) (n : Id) =>
 jp (fun (v21 : V) (h : H) (n : Id) =>
 evPick v14 v21 (.b false) fun v23 =>
 k v23 h n) fun kk22 =>
 gdB v14 true ((evBin2 tbx .eql 3 v19 (.i .i64 0) fun v => kk22 v h n)) (kk22 (.tp []) h n)) fun kk20 =>
 gdB v14 true ((evLen tbx 160 v17 fun v => kk20 v h n)) (kk20 (.tp []) h n)) fun kk18 =>
 gdB v14 true ((evLoad tbx 160 v15 h fun v => kk18 v h n)) (kk18 (.tp []) h n)) fun kk16 =>
 gdB v14 true ((evFa tbx 162 3 v1 fun v => kk16 v h n)) (kk16 (.tp []) h n)) fun kk13 =>
 gdB v7 true ((cf 206 [v10] h n kk13)) (kk13 (.tp []) h n)) fun kk11 =>
 gdB v7 true ((evLoad tbx 9 v8 h fun v => kk11 v h n)) (kk11 (.tp []) h n)) fun kk9 =>
 gdB v7 true ((evFa tbx 162 2 v1 fun v => kk9 v h n)) (kk9 (.tp []) h n)) (
 evFa tbx 162 1 v1 fun v24 =>
 evLoad tbx 9 v24 h fun v25 =>
 cf 207 [v25] h n fun v26 h n =>
 jp (fun (v27 : V) (h : H) (n : Id) =>
 jp (fun (v29 : V) (h : H) (n : Id) =>
 jp (fun (v31 : V) (h : H) (n : Id) =>
 evPick v26 v31 (.b false) fun v33 =>
 jp (fun (v34 : V) (h : H) (n : Id) =>
 jp (fun (v36 : V) (h : H) (n : Id) =>
 jp (fun (v38 : V) (h : H) (n : Id) =>
 evPick v33 v38 (.b false) fun v40 =>
 k v40 h n) fun kk39 =>
 gdB v33 true ((cf 208 [v36] h n kk39)) (kk39 (.tp []) h n)) fun kk37 =>
 gdB v33 true ((evLoad tbx 160 v34 h fun v => kk37 v h n)) (kk37 (.tp []) h n)) fun kk35 =>
 gdB v33 true ((evFa tbx 162 3 v1 fun v => kk35 v h n)) (kk35 (.tp []) h n)) fun kk32 =>
 gdB v26 true ((evBin2 tbx .eql 9 v29 (.s 0 0) fun v => kk32 v h n)) (kk32 (.tp []) h n)) fun kk30 =>
 gdB v26 true ((evLoad tbx 9 v27 h fun v => kk30 v h n)) (kk30 (.tp []) h n)) fun kk28 =>
 gdB v26 true ((evFa tbx 162 2 v1 fun v => kk28 v h n)) (kk28 (.tp []) h n))
theorem q143 (fu : Nat) (cf : CF) (a0 : V) (h : H) (n : Id) (k : KV) : evFn tbx mtab (fun cf _ => drF tbx mtab cf) fu cf ⟨Tryz.f143, bd Tryz.f143, [0], [2], (.q .z (.q (.q .z (.c (.q .z .z) .z)) (.q .z .z)))⟩ [a0] h n k = s143 fu cf a0 h n k := by kernel_rfl
theorem p143 : PfOk Tryz.prog tbx mtab 143 (w1 (s143 fuX)) := pfo ⟨Tryz.f143, bd Tryz.f143, [0], [2], (.q .z (.q (.q .z (.c (.q .z .z) .z)) (.q .z .z)))⟩ Tryz.func143 (by kernel_rfl) (by kernel_rfl) (by kernel_rfl) (by kernel_rfl) (w1_ok fun cf a0 h n k => q143 fuX cf a0 h n k)
-- (newel/markup.path).to
noncomputable def s144 (fu : Nat) (cf : CF) (a0 a1 : V) (h : H) (n : Id) (k : KV) : R :=
 cf 209 [a0, a1] h n fun v1 h n =>
 evBin2 tbx .add 3 v1 (.i .i64 1) fun v2 =>
 evSlc tbx 224 a0 none (some v2) fun v3 =>
 evBin2 tbx .geq 3 v1 (.i .i64 0) fun v4 =>
 k (.tp [v3, v4]) h n
theorem q144 (fu : Nat) (cf : CF) (a0 a1 : V) (h : H) (n : Id) (k : KV) : evFn tbx mtab (fun cf _ => drF tbx mtab cf) fu cf ⟨Tryz.f144, bd Tryz.f144, [0, 1], [4, 5], (.q .z (.q .z (.q .z .z)))⟩ [a0, a1] h n k = s144 fu cf a0 a1 h n k := by kernel_rfl
theorem p144 : PfOk Tryz.prog tbx mtab 144 (w2 (s144 fuX)) := pfo ⟨Tryz.f144, bd Tryz.f144, [0, 1], [4, 5], (.q .z (.q .z (.q .z .z)))⟩ Tryz.func144 (by kernel_rfl) (by kernel_rfl) (by kernel_rfl) (by kernel_rfl) (w2_ok fun cf a0 a1 h n k => q144 fuX cf a0 a1 h n k)
-- (*newel/pom.reader).each
noncomputable def s145 (fu : Nat) (cf : CF) (a0 a1 a2 : V) (h : H) (n : Id) (k : KV) : R :=
 jp (fun (s3 : VT [6]) (h : H) (n : Id) =>
 pc s3 fun v6 s7 =>
 k v6 h n) fun kk1 =>
 jp (lpC [0, 1, 2, 7] (fun lo5 s4 h n =>
 pc s4 fun v8 s9 =>
 pc s9 fun v10 s11 =>
 pc s11 fun v12 s13 =>
 pc s13 fun v14 s15 =>
 evLen tbx 149 v14 fun v16 =>
 evBin2 tbx .gtr 3 v16 (.i .i64 0) fun v17 =>
 brB v17 (
 evIa tbx 149 v14 (.i .i64 0) fun v18 =>
 evLoad tbx 3 v18 h fun v19 =>
 evCall cf v12 [v19] h n fun v20 h n =>
 evBin2 tbx .neq 33 v20 (.i .i64 0) fun v21 =>
 brB v21 (
 k v20 h n) (
 evSlc tbx 149 v14 (some (.i .i64 1)) none fun v22 =>
 lo5 (v8, v10, v12, v22, ()) h n)) (
 evNc' v8 fun v23 =>
 evFa tbx 166 0 v23 fun v24 =>
 evLoad tbx 114 v24 h fun v25 =>
 cf 211 [v25, v10] h n fun v26 h n =>
 cf 210 [v26] h n fun v27 h n =>
 evBin2 tbx .neq 9 v27 (.s 0 0) fun v28 =>
 brB v28 (
 k (.i .i64 10) h n) (
 k (.i .i64 0) h n))) fu) fun lo2 =>
 evNc' a0 fun v29 =>
 evFa tbx 166 1 v29 fun v30 =>
 evLoad tbx 164 v30 h fun v31 =>
 evIa tbx 164 v31 a1 fun v32 =>
 evLoad tbx 149 v32 h fun v33 =>
 evLen tbx 149 v33 fun v34 =>
 evBin2 tbx .gtr 3 v34 (.i .i64 0) fun v35 =>
 brB v35 (
 evIa tbx 149 v33 (.i .i64 0) fun v36 =>
 evLoad tbx 3 v36 h fun v37 =>
 evCall cf a2 [v37] h n fun v38 h n =>
 evBin2 tbx .neq 33 v38 (.i .i64 0) fun v39 =>
 brB v39 (
 k v38 h n) (
 evSlc tbx 149 v33 (some (.i .i64 1)) none fun v40 =>
 lo2 (a0, a1, a2, v40, ()) h n)) (
 evNc' a0 fun v41 =>
 evFa tbx 166 0 v41 fun v42 =>
 evLoad tbx 114 v42 h fun v43 =>
 cf 211 [v43, a1] h n fun v44 h n =>
 cf 210 [v44] h n fun v45 h n =>
 evBin2 tbx .neq 9 v45 (.s 0 0) fun v46 =>
 brB v46 (
 k (.i .i64 10) h n) (
 k (.i .i64 0) h n))
theorem q145 (fu : Nat) (cf : CF) (a0 a1 a2 : V) (h : H) (n : Id) (k : KV) : evFn tbx mtab (fun cf _ => drF tbx mtab cf) fu cf ⟨Tryz.f145, bd Tryz.f145, [0, 1, 2], [6], (.q .z (.g 0 [0, 1, 2, 7] [6] (.q .z (.q .z (.q (.q .z (.c (.q (.q .z (.q .z (.c (.q .z .z) .z))) (.q .z .z)) .z)) (.q (.q .z (.c (.q .z .z) .z)) (.q .z .z))))) (.q .z (.q (.q .z (.c (.q (.q .z (.q .z (.c (.q .z .z) .z))) (.q .z .z)) .z)) (.q (.q .z (.c (.q .z .z) .z)) (.q .z .z))))))⟩ [a0, a1, a2] h n k = s145 fu cf a0 a1 a2 h n k := by kernel_rfl
theorem p145 : PfOk Tryz.prog tbx mtab 145 (w3 (s145 fuX)) := pfo ⟨Tryz.f145, bd Tryz.f145, [0, 1, 2], [6], (.q .z (.g 0 [0, 1, 2, 7] [6] (.q .z (.q .z (.q (.q .z (.c (.q (.q .z (.q .z (.c (.q .z .z) .z))) (.q .z .z)) .z)) (.q (.q .z (.c (.q .z .z) .z)) (.q .z .z))))) (.q .z (.q (.q .z (.c (.q (.q .z (.q .z (.c (.q .z .z) .z))) (.q .z .z)) .z)) (.q (.q .z (.c (.q .z .z) .z)) (.q .z .z))))))⟩ Tryz.func145 (by kernel_rfl) (by kernel_rfl) (by kernel_rfl) (by kernel_rfl) (w3_ok fun cf a0 a1 a2 h n k => q145 fuX cf a0 a1 a2 h n k)
-- (*newel/pom.reader).part$1
noncomputable def s146 (fu : Nat) (cf : CF) (a0 a1 a2 a3 : V) (h : H) (n : Id) (k : KV) : R :=
 evLoad tbx 163 a1 h fun v1 =>
 evNc' v1 fun v2 =>
 evFa tbx 166 0 v2 fun v3 =>
 evLoad tbx 114 v3 h fun v4 =>
 evIa tbx 114 v4 a0 fun v5 =>
 evFa tbx 162 1 v5 fun v6 =>
 evLoad tbx 9 v6 h fun v7 =>
 evLoad tbx 177 a2 h fun v8 =>
 evLook tbx mtab 177 v8 v7 true h fun v9 =>
 evExt 0 v9 fun v10 =>
 evExt 1 v9 fun v11 =>
 jp (fun (s12 : VT [0, 3, 6, 7]) (h : H) (n : Id) =>
 pc s12 fun v14 s15 =>
 pc s15 fun v16 s17 =>
 pc s17 fun v18 s19 =>
 pc s19 fun v20 s21 =>
 evLoad tbx 227 v16 h fun v22 =>
 evMapUpd mtab 227 v22 v18 (.b true) h n fun _ h n =>
 evCall cf v20 [v14] h n fun v23 h n =>
 k v23 h n) fun kk13 =>
 evUn .not v11 fun v24 =>
 brB v24 (
 k (.i .i64 0) h n) (
 evLoad tbx 227 a3 h fun v25 =>
 evLook tbx mtab 227 v25 v7 false h fun v26 =>
 brB v26 (
 k (.i .i64 9) h n) (
 kk13 (a0, a3, v7, v10, ()) h n))
theorem q146 (fu : Nat) (cf : CF) (a0 a1 a2 a3 : V) (h : H) (n : Id) (k : KV) : evFn tbx mtab (fun cf _ => drF tbx mtab cf) fu cf ⟨Tryz.f146, bd Tryz.f146, [0, 1, 2, 3], [5], (.q .z (.q .z (.q .z (.q (.b [0, 3, 6, 7] (.q .z (.c (.q .z .z) (.q .z (.c (.q .z .z) .z))))) (.q .z (.q .z .z))))))⟩ [a0, a1, a2, a3] h n k = s146 fu cf a0 a1 a2 a3 h n k := by kernel_rfl
theorem p146 : PfOk Tryz.prog tbx mtab 146 (w4 (s146 fuX)) := pfo ⟨Tryz.f146, bd Tryz.f146, [0, 1, 2, 3], [5], (.q .z (.q .z (.q .z (.q (.b [0, 3, 6, 7] (.q .z (.c (.q .z .z) (.q .z (.c (.q .z .z) .z))))) (.q .z (.q .z .z))))))⟩ Tryz.func146 (by kernel_rfl) (by kernel_rfl) (by kernel_rfl) (by kernel_rfl) (w4_ok fun cf a0 a1 a2 a3 h n k => q146 fuX cf a0 a1 a2 a3 h n k)
-- (*newel/pom.reader).into$1
noncomputable def s147 (fu : Nat) (cf : CF) (a0 a1 a2 : V) (h : H) (n : Id) (k : KV) : R :=
 evLoad tbx 163 a1 h fun v1 =>
 cf 148 [v1, a0] h n fun v2 h n =>
 evExt 0 v2 fun v3 =>
 evExt 1 v2 fun v4 =>
 evLoad tbx 169 a2 h fun v5 =>
 evNc' v5 fun v6 =>
 evStore tbx 9 v6 v3 h n fun _ h n =>
 k v4 h n
theorem q147 (fu : Nat) (cf : CF) (a0 a1 a2 : V) (h : H) (n : Id) (k : KV) : evFn tbx mtab (fun cf _ => drF tbx mtab cf) fu cf ⟨Tryz.f147, bd Tryz.f147, [0, 1, 2], [4], (.q .z (.q .z (.q .z (.q .z .z))))⟩ [a0, a1, a2] h n k = s147 fu cf a0 a1 a2 h n k := by kernel_rfl
theorem p147 : PfOk Tryz.prog tbx mtab 147 (w3 (s147 fuX)) := pfo ⟨Tryz.f147, bd Tryz.f147, [0, 1, 2], [4], (.q .z (.q .z (.q .z (.q .z .z))))⟩ Tryz.func147 (by kernel_rfl) (by kernel_rfl) (by kernel_rfl) (by kernel_rfl) (w3_ok fun cf a0 a1 a2 h n k => q147 fuX cf a0 a1 a2 h n k)
-- (*newel/pom.reader).leaf
noncomputable def s148 (fu : Nat) (cf : CF) (a0 a1 : V) (h : H) (n : Id) (k : KV) : R :=
 evNc' a0 fun v1 =>
 evFa tbx 166 0 v1 fun v2 =>
 evLoad tbx 114 v2 h fun v3 =>
 cf 211 [v3, a1] h n fun v4 h n =>
 cf 210 [v4] h n fun v5 h n =>
 evNc' a0 fun v6 =>
 evFa tbx 166 1 v6 fun v7 =>
 evLoad tbx 164 v7 h fun v8 =>
 evIa tbx 164 v8 a1 fun v9 =>
 evLoad tbx 149 v9 h fun v10 =>
 evLen tbx 149 v10 fun v11 =>
 evBin2 tbx .gtr 3 v11 (.i .i64 0) fun v12 =>
 jp (fun (v13 : V) (h : H) (n : Id) =>
 jp (fun (v15 : V) (h : H) (n : Id) =>
 jp (fun (v17 : V) (h : H) (n : Id) =>
 evPick v12 (.b true) v17 fun v19 =>
 brB v19 (
 k (.tp [(.s 0 0), (.i .i64 10)]) h n) (
 k (.tp [v5, (.i .i64 0)]) h n)) fun kk18 =>
 gdB v12 false ((evBin2 tbx .gtr 3 v15 (.i .i64 500) fun v => kk18 v h n)) (kk18 (.tp []) h n)) fun kk16 =>
 gdB v12 false ((evLen tbx 9 v13 fun v => kk16 v h n)) (kk16 (.tp []) h n)) fun kk14 =>
 gdB v12 false (kk14 v5 h n) (kk14 (.tp []) h n)
theorem q148 (fu : Nat) (cf : CF) (a0 a1 : V) (h : H) (n : Id) (k : KV) : evFn tbx mtab (fun cf _ => drF tbx mtab cf) fu cf ⟨Tryz.f148, bd Tryz.f148, [0, 1], [4, 5], (.q .z (.q .z (.q (.q .z (.c (.q .z .z) .z)) (.q .z .z))))⟩ [a0, a1] h n k = s148 fu cf a0 a1 h n k := by kernel_rfl
theorem p148 : PfOk Tryz.prog tbx mtab 148 (w2 (s148 fuX)) := pfo ⟨Tryz.f148, bd Tryz.f148, [0, 1], [4, 5], (.q .z (.q .z (.q (.q .z (.c (.q .z .z) .z)) (.q .z .z))))⟩ Tryz.func148 (by kernel_rfl) (by kernel_rfl) (by kernel_rfl) (by kernel_rfl) (w2_ok fun cf a0 a1 h n k => q148 fuX cf a0 a1 h n k)
-- (*newel/pom.reader).parent$1
noncomputable def s149 (fu : Nat) (cf : CF) (a0 a1 a2 : V) (h : H) (n : Id) (k : KV) : R :=
 evLoad tbx 163 a1 h fun v1 =>
 evLoad tbx 163 a1 h fun v2 =>
 evLoad tbx 171 a2 h fun v3 =>
 evNc' v3 fun v4 =>
 evFa tbx 24 0 v4 fun v5 =>
 evLoad tbx 163 a1 h fun v6 =>
 evLoad tbx 171 a2 h fun v7 =>
 evNc' v7 fun v8 =>
 evFa tbx 24 1 v8 fun v9 =>
 evLoad tbx 163 a1 h fun v10 =>
 evLoad tbx 171 a2 h fun v11 =>
 evNc' v11 fun v12 =>
 evFa tbx 24 2 v12 fun v13 =>
 evLoad tbx 163 a1 h fun w54 => cond (eqV 6 w54 v1) (
 evLoad tbx 163 a1 h fun w53 => cond (eqV 6 w53 v2) (
 evLoad tbx 171 a2 h fun w52 => cond (eqV 6 w52 v3) (
 evLoad tbx 163 a1 h fun w51 => cond (eqV 6 w51 v6) (
 evLoad tbx 171 a2 h fun w50 => cond (eqV 6 w50 v7) (
 evLoad tbx 163 a1 h fun w49 => cond (eqV 6 w49 v10) (
 evLoad tbx 171 a2 h fun w48 => cond (eqV 6 w48 v11) (
 cf 99 [v2, v5] h n fun v14 h n =>
 evLoad tbx 163 a1 h fun w47 => cond (eqV 6 w47 v1) (
 evLoad tbx 163 a1 h fun w46 => cond (eqV 6 w46 v6) (
 evLoad tbx 171 a2 h fun w45 => cond (eqV 6 w45 v7) (
 evLoad tbx 163 a1 h fun w44 => cond (eqV 6 w44 v10) (
 evLoad tbx 171 a2 h fun w43 => cond (eqV 6 w43 v11) (
 cf 99 [v6, v9] h n fun v15 h n =>
 evLoad tbx 163 a1 h fun w42 => cond (eqV 6 w42 v1) (
 evLoad tbx 163 a1 h fun w41 => cond (eqV 6 w41 v10) (
 evLoad tbx 171 a2 h fun w40 => cond (eqV 6 w40 v11) (
 cf 99 [v10, v13] h n fun v16 h n =>
 alB n fun n' => litA [((.s 7 29117745638426980), v14), ((.s 10 460180866011107895298404), v15), ((.s 7 33325589488824174), v16)] fun x mk => 
 (fun (v17 : V) (h : H) (n : Id) =>
 evLoad tbx 163 a1 h fun w39 => cond (eqV 6 w39 v1) (
 ckO (vId v17) h fun id x' => litA [((.s 7 29117745638426980), v14), ((.s 10 460180866011107895298404), v15), ((.s 7 33325589488824174), v16)] fun x mk => cond (eqO x' x) (cond (eqV 6 (mk id) v17) (
 cf 98 [v1, a0, v17] h n fun v18 h n =>
 evLoad tbx 171 a2 h fun v19 =>
 evNc' v19 fun v20 =>
 evFa tbx 24 0 v20 fun v21 =>
 evLoad tbx 9 v21 h fun v22 =>
 evLoad tbx 171 a2 h fun v23 =>
 evNc' v23 fun v24 =>
 evFa tbx 24 1 v24 fun v25 =>
 evLoad tbx 9 v25 h fun v26 =>
 evLoad tbx 171 a2 h fun v27 =>
 evNc' v27 fun v28 =>
 evFa tbx 24 2 v28 fun v29 =>
 evLoad tbx 9 v29 h fun v30 =>
 evLoad tbx 171 a2 h fun w38 => cond (eqV 6 w38 v19) (
 evLoad tbx 9 v21 h fun w37 => cond (eqV 6 w37 v22) (
 evLoad tbx 171 a2 h fun w36 => cond (eqV 6 w36 v23) (
 evLoad tbx 9 v25 h fun w35 => cond (eqV 6 w35 v26) (
 evLoad tbx 171 a2 h fun w34 => cond (eqV 6 w34 v27) (
 evLoad tbx 9 v29 h fun w33 => cond (eqV 6 w33 v30) (
 evBuildSl tbx 71 3 [(0, v22), (1, v26), (2, v30)] h n fun v31 h n =>
 cf 104 [v18, v31] h n fun v32 h n =>
 k v32 h n) none) none) none) none) none) none) none) none) none) (mk n) (hset x n h) n') none) none) none) none) none) none) none) none) none) none) none) none) none) none) none
theorem q149 (fu : Nat) (cf : CF) (a0 a1 a2 : V) (h : H) (n : Id) (k : KV) : evFn tbx mtab (fun cf _ => drF tbx mtab cf) fu cf ⟨Tryz.f149, bd Tryz.f149, [0, 1, 2], [4], (.q .z (.q .z (.q .z .z)))⟩ [a0, a1, a2] h n k = s149 fu cf a0 a1 a2 h n k := by kernel_rfl
theorem p149 : PfOk Tryz.prog tbx mtab 149 (w3 (s149 fuX)) := pfo ⟨Tryz.f149, bd Tryz.f149, [0, 1, 2], [4], (.q .z (.q .z (.q .z .z)))⟩ Tryz.func149 (by kernel_rfl) (by kernel_rfl) (by kernel_rfl) (by kernel_rfl) (w3_ok fun cf a0 a1 a2 h n k => q149 fuX cf a0 a1 a2 h n k)
-- (*newel/pom.reader).props$1
noncomputable def s150 (fu : Nat) (cf : CF) (a0 a1 a2 : V) (h : H) (n : Id) (k : KV) : R :=
 evMkMap h n fun v1 h n =>
 evAlloc tbx 227 h n fun v2 h n =>
 evStore tbx 227 v2 v1 h n fun _ h n =>
 evLoad tbx 163 a1 h fun v3 =>
 let v4 : V := (.fn 151 [a1, v2, a2])
 cf 145 [v3, a0, v4] h n fun v5 h n =>
 k v5 h n
theorem q150 (fu : Nat) (cf : CF) (a0 a1 a2 : V) (h : H) (n : Id) (k : KV) : evFn tbx mtab (fun cf _ => drF tbx mtab cf) fu cf ⟨Tryz.f150, bd Tryz.f150, [0, 1, 2], [4], (.q .z (.q .z (.q .z .z)))⟩ [a0, a1, a2] h n k = s150 fu cf a0 a1 a2 h n k := by kernel_rfl
theorem p150 : PfOk Tryz.prog tbx mtab 150 (w3 (s150 fuX)) := pfo ⟨Tryz.f150, bd Tryz.f150, [0, 1, 2], [4], (.q .z (.q .z (.q .z .z)))⟩ Tryz.func150 (by kernel_rfl) (by kernel_rfl) (by kernel_rfl) (by kernel_rfl) (w3_ok fun cf a0 a1 a2 h n k => q150 fuX cf a0 a1 a2 h n k)
-- (*newel/pom.reader).props$1$1
noncomputable def s151 (fu : Nat) (cf : CF) (a0 a1 a2 a3 : V) (h : H) (n : Id) (k : KV) : R :=
 evLoad tbx 163 a1 h fun v1 =>
 evNc' v1 fun v2 =>
 evFa tbx 166 0 v2 fun v3 =>
 evLoad tbx 114 v3 h fun v4 =>
 evIa tbx 114 v4 a0 fun v5 =>
 evFa tbx 162 1 v5 fun v6 =>
 evLoad tbx 9 v6 h fun v7 =>
 jp (fun (s8 : VT [0, 1, 2, 3, 6]) (h : H) (n : Id) =>
 pc s8 fun v10 s11 =>
 pc s11 fun v12 s13 =>
 pc s13 fun v14 s15 =>
 pc s15 fun v16 s17 =>
 pc s17 fun v18 s19 =>
 evLoad tbx 227 v14 h fun v20 =>
 evMapUpd mtab 227 v20 v18 (.b true) h n fun _ h n =>
 evLoad tbx 163 v12 h fun v21 =>
 cf 148 [v21, v10] h n fun v22 h n =>
 evExt 0 v22 fun v23 =>
 evExt 1 v22 fun v24 =>
 evLoad tbx 173 v16 h fun v25 =>
 evLoad tbx 173 v16 h fun v26 =>
 evNc' v26 fun v27 =>
 evLoad tbx 29 v27 h fun v28 =>
 evBuild tbx 57 [(0, v18), (1, v23)] fun v29 =>
 evLoad tbx 173 v16 h fun w39 => cond (eqV 6 w39 v25) (
 evLoad tbx 173 v16 h fun w38 => cond (eqV 6 w38 v26) (
 evLoad tbx 29 v27 h fun w37 => cond (eqV 6 w37 v28) (
 evBuildSl tbx 29 1 [(0, v29)] h n fun v30 h n =>
 evLoad tbx 173 v16 h fun w36 => cond (eqV 6 w36 v25) (
 evLoad tbx 173 v16 h fun w35 => cond (eqV 6 w35 v26) (
 evLoad tbx 29 v27 h fun w34 => cond (eqV 6 w34 v28) (
 evApp tbx 29 29 v28 v30 h n fun v31 h n =>
 evNc' v25 fun v32 =>
 evLoad tbx 173 v16 h fun w33 => cond (eqV 6 w33 v25) (
 evStore tbx 29 v32 v31 h n fun _ h n =>
 k v24 h n) none) none) none) none) none) none) none) fun kk9 =>
 evLoad tbx 227 a2 h fun v40 =>
 evLook tbx mtab 227 v40 v7 false h fun v41 =>
 brB v41 (
 k (.i .i64 9) h n) (
 evLoad tbx 173 a3 h fun v42 =>
 evNc' v42 fun v43 =>
 evLoad tbx 29 v43 h fun v44 =>
 evLen tbx 29 v44 fun v45 =>
 evBin2 tbx .geq 3 v45 (.i .i64 100) fun v46 =>
 brB v46 (
 k (.i .i64 3) h n) (
 kk9 (a0, a1, a2, a3, v7, ()) h n))
theorem q151 (fu : Nat) (cf : CF) (a0 a1 a2 a3 : V) (h : H) (n : Id) (k : KV) : evFn tbx mtab (fun cf _ => drF tbx mtab cf) fu cf ⟨Tryz.f151, bd Tryz.f151, [0, 1, 2, 3], [5], (.q .z (.q .z (.q (.b [0, 1, 2, 3, 6] (.q .z (.c (.q .z .z) (.q .z (.c (.q .z .z) .z))))) (.q .z (.q .z (.q .z (.q .z .z)))))))⟩ [a0, a1, a2, a3] h n k = s151 fu cf a0 a1 a2 a3 h n k := by kernel_rfl
theorem p151 : PfOk Tryz.prog tbx mtab 151 (w4 (s151 fuX)) := pfo ⟨Tryz.f151, bd Tryz.f151, [0, 1, 2, 3], [5], (.q .z (.q .z (.q (.b [0, 1, 2, 3, 6] (.q .z (.c (.q .z .z) (.q .z (.c (.q .z .z) .z))))) (.q .z (.q .z (.q .z (.q .z .z)))))))⟩ Tryz.func151 (by kernel_rfl) (by kernel_rfl) (by kernel_rfl) (by kernel_rfl) (w4_ok fun cf a0 a1 a2 a3 h n k => q151 fuX cf a0 a1 a2 a3 h n k)
-- (*newel/pom.reader).managed$1
noncomputable def s152 (fu : Nat) (cf : CF) (a0 a1 a2 : V) (h : H) (n : Id) (k : KV) : R :=
 evLoad tbx 163 a1 h fun v1 =>
 evLoad tbx 163 a1 h fun v2 =>
 evLoad tbx 175 a2 h fun v3 =>
 evLoad tbx 163 a1 h fun w10 => cond (eqV 6 w10 v1) (
 evLoad tbx 163 a1 h fun w9 => cond (eqV 6 w9 v2) (
 evLoad tbx 175 a2 h fun w8 => cond (eqV 6 w8 v3) (
 cf 103 [v2, v3] h n fun v4 h n =>
 alB n fun n' => litA [((.s 12 31071133266037411630683874675), v4)] fun x mk => 
 (fun (v5 : V) (h : H) (n : Id) =>
 evLoad tbx 163 a1 h fun w7 => cond (eqV 6 w7 v1) (
 ckO (vId v5) h fun id x' => litA [((.s 12 31071133266037411630683874675), v4)] fun x mk => cond (eqO x' x) (cond (eqV 6 (mk id) v5) (
 cf 98 [v1, a0, v5] h n fun v6 h n =>
 k v6 h n) none) none) none) (mk n) (hset x n h) n') none) none) none
theorem q152 (fu : Nat) (cf : CF) (a0 a1 a2 : V) (h : H) (n : Id) (k : KV) : evFn tbx mtab (fun cf _ => drF tbx mtab cf) fu cf ⟨Tryz.f152, bd Tryz.f152, [0, 1, 2], [4], (.q .z (.q .z .z))⟩ [a0, a1, a2] h n k = s152 fu cf a0 a1 a2 h n k := by kernel_rfl
theorem p152 : PfOk Tryz.prog tbx mtab 152 (w3 (s152 fuX)) := pfo ⟨Tryz.f152, bd Tryz.f152, [0, 1, 2], [4], (.q .z (.q .z .z))⟩ Tryz.func152 (by kernel_rfl) (by kernel_rfl) (by kernel_rfl) (by kernel_rfl) (w3_ok fun cf a0 a1 a2 h n k => q152 fuX cf a0 a1 a2 h n k)
-- (*newel/pom.reader).deps$1
noncomputable def s153 (fu : Nat) (cf : CF) (a0 a1 a2 : V) (h : H) (n : Id) (k : KV) : R :=
 evLoad tbx 163 a1 h fun v1 =>
 let v2 : V := (.fn 155 [a1, a2])
 cf 154 [v1, a0, (.s 10 474107868439291559306105), (.i .i64 200), v2] h n fun v3 h n =>
 k v3 h n
theorem q153 (fu : Nat) (cf : CF) (a0 a1 a2 : V) (h : H) (n : Id) (k : KV) : evFn tbx mtab (fun cf _ => drF tbx mtab cf) fu cf ⟨Tryz.f153, bd Tryz.f153, [0, 1, 2], [4], (.q .z (.q .z .z))⟩ [a0, a1, a2] h n k = s153 fu cf a0 a1 a2 h n k := by kernel_rfl
theorem p153 : PfOk Tryz.prog tbx mtab 153 (w3 (s153 fuX)) := pfo ⟨Tryz.f153, bd Tryz.f153, [0, 1, 2], [4], (.q .z (.q .z .z))⟩ Tryz.func153 (by kernel_rfl) (by kernel_rfl) (by kernel_rfl) (by kernel_rfl) (w3_ok fun cf a0 a1 a2 h n k => q153 fuX cf a0 a1 a2 h n k)
-- (*newel/pom.reader).many
noncomputable def s154 (fu : Nat) (cf : CF) (a0 a1 a2 a3 a4 : V) (h : H) (n : Id) (k : KV) : R :=
 evBox a0 h n fun v1 h n =>
 evBox a2 h n fun v2 h n =>
 evBox a3 h n fun v3 h n =>
 evBox a4 h n fun v4 h n =>
 evAlloc tbx 3 h n fun v5 h n =>
 evStore tbx 3 v5 (.i .i64 0) h n fun _ h n =>
 evLoad tbx 163 v1 h fun v6 =>
 let v7 : V := (.fn 212 [v1, v2, v5, v3, v4])
 cf 145 [v6, a1, v7] h n fun v8 h n =>
 k v8 h n
theorem q154 (fu : Nat) (cf : CF) (a0 a1 a2 a3 a4 : V) (h : H) (n : Id) (k : KV) : evFn tbx mtab (fun cf _ => drF tbx mtab cf) fu cf ⟨Tryz.f154, bd Tryz.f154, [0, 1, 2, 3, 4], [10], (.q .z (.q .z (.q .z .z)))⟩ [a0, a1, a2, a3, a4] h n k = s154 fu cf a0 a1 a2 a3 a4 h n k := by kernel_rfl
theorem p154 : PfOk Tryz.prog tbx mtab 154 (w5 (s154 fuX)) := pfo ⟨Tryz.f154, bd Tryz.f154, [0, 1, 2, 3, 4], [10], (.q .z (.q .z (.q .z .z)))⟩ Tryz.func154 (by kernel_rfl) (by kernel_rfl) (by kernel_rfl) (by kernel_rfl) (w5_ok fun cf a0 a1 a2 a3 a4 h n k => q154 fuX cf a0 a1 a2 a3 a4 h n k)
-- (*newel/pom.reader).deps$1$1
noncomputable def s155 (fu : Nat) (cf : CF) (a0 a1 a2 : V) (h : H) (n : Id) (k : KV) : R :=
 evAlloc tbx 51 h n fun v1 h n =>
 evLoad tbx 163 a1 h fun v2 =>
 evLoad tbx 163 a1 h fun v3 =>
 evFa tbx 51 0 v1 fun v4 =>
 evLoad tbx 163 a1 h fun v5 =>
 evFa tbx 51 1 v1 fun v6 =>
 evLoad tbx 163 a1 h fun v7 =>
 evFa tbx 51 2 v1 fun v8 =>
 evLoad tbx 163 a1 h fun v9 =>
 evFa tbx 51 3 v1 fun v10 =>
 evLoad tbx 163 a1 h fun v11 =>
 evFa tbx 51 4 v1 fun v12 =>
 evLoad tbx 163 a1 h fun v13 =>
 evFa tbx 51 5 v1 fun v14 =>
 evLoad tbx 163 a1 h fun v15 =>
 evFa tbx 51 6 v1 fun v16 =>
 evLoad tbx 163 a1 h fun v17 =>
 evFa tbx 51 7 v1 fun v18 =>
 evLoad tbx 163 a1 h fun w95 => cond (eqV 6 w95 v2) (
 evLoad tbx 163 a1 h fun w94 => cond (eqV 6 w94 v3) (
 evLoad tbx 163 a1 h fun w93 => cond (eqV 6 w93 v5) (
 evLoad tbx 163 a1 h fun w92 => cond (eqV 6 w92 v7) (
 evLoad tbx 163 a1 h fun w91 => cond (eqV 6 w91 v9) (
 evLoad tbx 163 a1 h fun w90 => cond (eqV 6 w90 v11) (
 evLoad tbx 163 a1 h fun w89 => cond (eqV 6 w89 v13) (
 evLoad tbx 163 a1 h fun w88 => cond (eqV 6 w88 v15) (
 evLoad tbx 163 a1 h fun w87 => cond (eqV 6 w87 v17) (
 cf 99 [v3, v4] h n fun v19 h n =>
 evLoad tbx 163 a1 h fun w86 => cond (eqV 6 w86 v2) (
 evLoad tbx 163 a1 h fun w85 => cond (eqV 6 w85 v5) (
 evLoad tbx 163 a1 h fun w84 => cond (eqV 6 w84 v7) (
 evLoad tbx 163 a1 h fun w83 => cond (eqV 6 w83 v9) (
 evLoad tbx 163 a1 h fun w82 => cond (eqV 6 w82 v11) (
 evLoad tbx 163 a1 h fun w81 => cond (eqV 6 w81 v13) (
 evLoad tbx 163 a1 h fun w80 => cond (eqV 6 w80 v15) (
 evLoad tbx 163 a1 h fun w79 => cond (eqV 6 w79 v17) (
 cf 99 [v5, v6] h n fun v20 h n =>
 evLoad tbx 163 a1 h fun w78 => cond (eqV 6 w78 v2) (
 evLoad tbx 163 a1 h fun w77 => cond (eqV 6 w77 v7) (
 evLoad tbx 163 a1 h fun w76 => cond (eqV 6 w76 v9) (
 evLoad tbx 163 a1 h fun w75 => cond (eqV 6 w75 v11) (
 evLoad tbx 163 a1 h fun w74 => cond (eqV 6 w74 v13) (
 evLoad tbx 163 a1 h fun w73 => cond (eqV 6 w73 v15) (
 evLoad tbx 163 a1 h fun w72 => cond (eqV 6 w72 v17) (
 cf 99 [v7, v8] h n fun v21 h n =>
 evLoad tbx 163 a1 h fun w71 => cond (eqV 6 w71 v2) (
 evLoad tbx 163 a1 h fun w70 => cond (eqV 6 w70 v9) (
 evLoad tbx 163 a1 h fun w69 => cond (eqV 6 w69 v11) (
 evLoad tbx 163 a1 h fun w68 => cond (eqV 6 w68 v13) (
 evLoad tbx 163 a1 h fun w67 => cond (eqV 6 w67 v15) (
 evLoad tbx 163 a1 h fun w66 => cond (eqV 6 w66 v17) (
 cf 99 [v9, v10] h n fun v22 h n =>
 evLoad tbx 163 a1 h fun w65 => cond (eqV 6 w65 v2) (
 evLoad tbx 163 a1 h fun w64 => cond (eqV 6 w64 v11) (
 evLoad tbx 163 a1 h fun w63 => cond (eqV 6 w63 v13) (
 evLoad tbx 163 a1 h fun w62 => cond (eqV 6 w62 v15) (
 evLoad tbx 163 a1 h fun w61 => cond (eqV 6 w61 v17) (
 cf 99 [v11, v12] h n fun v23 h n =>
 evLoad tbx 163 a1 h fun w60 => cond (eqV 6 w60 v2) (
 evLoad tbx 163 a1 h fun w59 => cond (eqV 6 w59 v13) (
 evLoad tbx 163 a1 h fun w58 => cond (eqV 6 w58 v15) (
 evLoad tbx 163 a1 h fun w57 => cond (eqV 6 w57 v17) (
 cf 99 [v13, v14] h n fun v24 h n =>
 evLoad tbx 163 a1 h fun w56 => cond (eqV 6 w56 v2) (
 evLoad tbx 163 a1 h fun w55 => cond (eqV 6 w55 v15) (
 evLoad tbx 163 a1 h fun w54 => cond (eqV 6 w54 v17) (
 cf 156 [v15, v16] h n fun v25 h n =>
 evLoad tbx 163 a1 h fun w53 => cond (eqV 6 w53 v2) (
 evLoad tbx 163 a1 h fun w52 => cond (eqV 6 w52 v17) (
 cf 157 [v17, v18] h n fun v26 h n =>
 alB n fun n' => litA [((.s 7 29117745638426980), v19), ((.s 10 460180866011107895298404), v20), ((.s 7 33325589488824174), v21), ((.s 4 1954115685), v22), ((.s 10 469513552247196035409266), v23), ((.s 5 495589486693), v24), ((.s 8 8030046131791487340), v25), ((.s 10 479179788288925102993011), v26)] fun x mk => 
 (fun (v27 : V) (h : H) (n : Id) =>
 evLoad tbx 163 a1 h fun w51 => cond (eqV 6 w51 v2) (
 ckO (vId v27) h fun id x' => litA [((.s 7 29117745638426980), v19), ((.s 10 460180866011107895298404), v20), ((.s 7 33325589488824174), v21), ((.s 4 1954115685), v22), ((.s 10 469513552247196035409266), v23), ((.s 5 495589486693), v24), ((.s 8 8030046131791487340), v25), ((.s 10 479179788288925102993011), v26)] fun x mk => cond (eqO x' x) (cond (eqV 6 (mk id) v27) (
 cf 98 [v2, a0, v27] h n fun v28 h n =>
 evLoad tbx 175 a2 h fun v29 =>
 evLoad tbx 175 a2 h fun v30 =>
 evNc' v30 fun v31 =>
 evLoad tbx 30 v31 h fun v32 =>
 evLoad tbx 51 v1 h fun v33 =>
 evLoad tbx 175 a2 h fun w50 => cond (eqV 6 w50 v29) (
 evLoad tbx 175 a2 h fun w49 => cond (eqV 6 w49 v30) (
 evLoad tbx 30 v31 h fun w48 => cond (eqV 6 w48 v32) (
 evLoad tbx 51 v1 h fun w47 => cond (eqV 6 w47 v33) (
 evBuildSl tbx 30 1 [(0, v33)] h n fun v34 h n =>
 evLoad tbx 175 a2 h fun w46 => cond (eqV 6 w46 v29) (
 evLoad tbx 175 a2 h fun w45 => cond (eqV 6 w45 v30) (
 evLoad tbx 30 v31 h fun w44 => cond (eqV 6 w44 v32) (
 evApp tbx 30 30 v32 v34 h n fun v35 h n =>
 evNc' v29 fun v36 =>
 evLoad tbx 175 a2 h fun w43 => cond (eqV 6 w43 v29) (
 evStore tbx 30 v36 v35 h n fun _ h n =>
 evFa tbx 51 0 v1 fun v37 =>
 evLoad tbx 9 v37 h fun v38 =>
 evFa tbx 51 1 v1 fun v39 =>
 evLoad tbx 9 v39 h fun v40 =>
 evBuildSl tbx 71 2 [(0, v38), (1, v40)] h n fun v41 h n =>
 cf 104 [v28, v41] h n fun v42 h n =>
 k v42 h n) none) none) none) none) none) none) none) none) none) none) none) (mk n) (hset x n h) n') none) none) none) none) none) none) none) none) none) none) none) none) none) none) none) none) none) none) none) none) none) none) none) none) none) none) none) none) none) none) none) none) none) none) none) none) none) none) none) none) none) none) none) none
theorem q155 (fu : Nat) (cf : CF) (a0 a1 a2 : V) (h : H) (n : Id) (k : KV) : evFn tbx mtab (fun cf _ => drF tbx mtab cf) fu cf ⟨Tryz.f155, bd Tryz.f155, [0, 1, 2], [4], (.q .z (.q .z (.q .z (.q .z (.q .z .z)))))⟩ [a0, a1, a2] h n k = s155 fu cf a0 a1 a2 h n k := by kernel_rfl
theorem p155 : PfOk Tryz.prog tbx mtab 155 (w3 (s155 fuX)) := pfo ⟨Tryz.f155, bd Tryz.f155, [0, 1, 2], [4], (.q .z (.q .z (.q .z (.q .z (.q .z .z)))))⟩ Tryz.func155 (by kernel_rfl) (by kernel_rfl) (by kernel_rfl) (by kernel_rfl) (w3_ok fun cf a0 a1 a2 h n k => q155 fuX cf a0 a1 a2 h n k)
-- (*newel/pom.reader).optional
noncomputable def s156 (fu : Nat) (cf : CF) (a0 a1 : V) (h : H) (n : Id) (k : KV) : R :=
 evBox a0 h n fun v1 h n =>
 evBox a1 h n fun v2 h n =>
 let v3 : V := (.fn 213 [v1, v2])
 k v3 h n
theorem q156 (fu : Nat) (cf : CF) (a0 a1 : V) (h : H) (n : Id) (k : KV) : evFn tbx mtab (fun cf _ => drF tbx mtab cf) fu cf ⟨Tryz.f156, bd Tryz.f156, [0, 1], [4], (.q .z (.q .z .z))⟩ [a0, a1] h n k = s156 fu cf a0 a1 h n k := by kernel_rfl
theorem p156 : PfOk Tryz.prog tbx mtab 156 (w2 (s156 fuX)) := pfo ⟨Tryz.f156, bd Tryz.f156, [0, 1], [4], (.q .z (.q .z .z))⟩ Tryz.func156 (by kernel_rfl) (by kernel_rfl) (by kernel_rfl) (by kernel_rfl) (w2_ok fun cf a0 a1 h n k => q156 fuX cf a0 a1 h n k)
-- (*newel/pom.reader).excluded
noncomputable def s157 (fu : Nat) (cf : CF) (a0 a1 : V) (h : H) (n : Id) (k : KV) : R :=
 evBox a0 h n fun v1 h n =>
 evBox a1 h n fun v2 h n =>
 let v3 : V := (.fn 214 [v1, v2])
 k v3 h n
theorem q157 (fu : Nat) (cf : CF) (a0 a1 : V) (h : H) (n : Id) (k : KV) : evFn tbx mtab (fun cf _ => drF tbx mtab cf) fu cf ⟨Tryz.f157, bd Tryz.f157, [0, 1], [4], (.q .z (.q .z .z))⟩ [a0, a1] h n k = s157 fu cf a0 a1 h n k := by kernel_rfl
theorem p157 : PfOk Tryz.prog tbx mtab 157 (w2 (s157 fuX)) := pfo ⟨Tryz.f157, bd Tryz.f157, [0, 1], [4], (.q .z (.q .z .z))⟩ Tryz.func157 (by kernel_rfl) (by kernel_rfl) (by kernel_rfl) (by kernel_rfl) (w2_ok fun cf a0 a1 h n k => q157 fuX cf a0 a1 h n k)
-- newel/pom.full
noncomputable def s158 (fu : Nat) (cf : CF) (a0 : V) (h : H) (n : Id) (k : KV) : R :=
 evLen tbx 71 a0 fun v1 =>
 jp (fun (s2 : VT []) (h : H) (n : Id) =>
 k (.i .i64 0) h n) fun kk3 =>
 lpC [5, 6, 7] (fun lo5 s4 h n =>
 pc s4 fun v6 s7 =>
 pc s7 fun v8 s9 =>
 pc s9 fun v10 s11 =>
 evBin2 tbx .lss 3 v10 v8 fun v12 =>
 brB v12 (
 jp (fun (s13 : VT [5, 6, 7]) (h : H) (n : Id) =>
 pc s13 fun v15 s16 =>
 pc s16 fun v17 s18 =>
 pc s18 fun v19 s20 =>
 evBin2 tbx .add 3 v19 (.i .i64 1) fun v21 =>
 lo5 (v15, v17, v21, ()) h n) fun kk14 =>
 evIa tbx 71 v6 v10 fun v22 =>
 evLoad tbx 9 v22 h fun v23 =>
 evBin2 tbx .eql 9 v23 (.s 0 0) fun v24 =>
 brB v24 (
 k (.i .i64 10) h n) (
 kk14 (v6, v8, v10, ()) h n)) (
 kk3 (()) h n)) fu (a0, v1, (.i .i64 0), ()) h n
theorem q158 (fu : Nat) (cf : CF) (a0 : V) (h : H) (n : Id) (k : KV) : evFn tbx mtab (fun cf _ => drF tbx mtab cf) fu cf ⟨Tryz.f158, bd Tryz.f158, [0], [2], (.q .z (.q (.q .z (.b [] (.l [5, 6, 7] (.q .z (.q (.c .z .z) (.q (.b [5, 6, 7] (.q .z (.q .z (.c (.q .z .z) .z)))) .z)))))) (.q .z .z)))⟩ [a0] h n k = s158 fu cf a0 h n k := by kernel_rfl
theorem p158 : PfOk Tryz.prog tbx mtab 158 (w1 (s158 fuX)) := pfo ⟨Tryz.f158, bd Tryz.f158, [0], [2], (.q .z (.q (.q .z (.b [] (.l [5, 6, 7] (.q .z (.q (.c .z .z) (.q (.b [5, 6, 7] (.q .z (.q .z (.c (.q .z .z) .z)))) .z)))))) (.q .z .z)))⟩ Tryz.func158 (by kernel_rfl) (by kernel_rfl) (by kernel_rfl) (by kernel_rfl) (w1_ok fun cf a0 h n k => q158 fuX cf a0 h n k)
-- strings.HasPrefix
noncomputable def s171 (fu : Nat) (cf : CF) (a0 a1 : V) (h : H) (n : Id) (k : KV) : R :=
 cf 223 [a0, a1] h n fun v1 h n =>
 k v1 h n
theorem q171 (fu : Nat) (cf : CF) (a0 a1 : V) (h : H) (n : Id) (k : KV) : evFn tbx mtab (fun cf _ => drF tbx mtab cf) fu cf ⟨Tryz.f171, bd Tryz.f171, [0, 1], [4], (.q .z (.q .z .z))⟩ [a0, a1] h n k = s171 fu cf a0 a1 h n k := by kernel_rfl
theorem p171 : PfOk Tryz.prog tbx mtab 171 (w2 (s171 fuX)) := pfo ⟨Tryz.f171, bd Tryz.f171, [0, 1], [4], (.q .z (.q .z .z))⟩ Tryz.func171 (by kernel_rfl) (by kernel_rfl) (by kernel_rfl) (by kernel_rfl) (w2_ok fun cf a0 a1 h n k => q171 fuX cf a0 a1 h n k)
-- strings.CutPrefix
noncomputable def s174 (fu : Nat) (cf : CF) (a0 a1 : V) (h : H) (n : Id) (k : KV) : R :=
 cf 228 [a0, a1] h n fun v1 h n =>
 evExt 0 v1 fun v2 =>
 evExt 1 v1 fun v3 =>
 k (.tp [v2, v3]) h n
theorem q174 (fu : Nat) (cf : CF) (a0 a1 : V) (h : H) (n : Id) (k : KV) : evFn tbx mtab (fun cf _ => drF tbx mtab cf) fu cf ⟨Tryz.f174, bd Tryz.f174, [0, 1], [4, 5], (.q .z (.q .z .z))⟩ [a0, a1] h n k = s174 fu cf a0 a1 h n k := by kernel_rfl
theorem p174 : PfOk Tryz.prog tbx mtab 174 (w2 (s174 fuX)) := pfo ⟨Tryz.f174, bd Tryz.f174, [0, 1], [4, 5], (.q .z (.q .z .z))⟩ Tryz.func174 (by kernel_rfl) (by kernel_rfl) (by kernel_rfl) (by kernel_rfl) (w2_ok fun cf a0 a1 h n k => q174 fuX cf a0 a1 h n k)
-- slices.order2CmpFunc[newel/api.Coord]
noncomputable def s186 (fu : Nat) (cf : CF) (a0 a1 a2 a3 a4 : V) (h : H) (n : Id) (k : KV) : R :=
 evIa tbx 79 a0 a2 fun v1 =>
 evLoad tbx 24 v1 h fun v2 =>
 evIa tbx 79 a0 a1 fun v3 =>
 evLoad tbx 24 v3 h fun v4 =>
 evLoad tbx 24 v1 h fun w12 => cond (eqV 6 w12 v2) (
 evLoad tbx 24 v3 h fun w11 => cond (eqV 6 w11 v4) (
 evCall cf a4 [v2, v4] h n fun v5 h n =>
 evBin2 tbx .lss 3 v5 (.i .i64 0) fun v6 =>
 brB v6 (
 evNc' a3 fun v7 =>
 evLoad tbx 3 v7 h fun v8 =>
 evBin2 tbx .add 3 v8 (.i .i64 1) fun v9 =>
 evNc' a3 fun v10 =>
 evStore tbx 3 v10 v9 h n fun _ h n =>
 k (.tp [a2, a1]) h n) (
 k (.tp [a1, a2]) h n)) none) none
theorem q186 (fu : Nat) (cf : CF) (a0 a1 a2 a3 a4 : V) (h : H) (n : Id) (k : KV) : evFn tbx mtab (fun cf _ => drF tbx mtab cf) fu cf ⟨Tryz.f186, bd Tryz.f186, [0, 1, 2, 3, 4], [10, 11], (.q .z (.q (.q .z (.c (.q .z (.q .z .z)) .z)) (.q .z .z)))⟩ [a0, a1, a2, a3, a4] h n k = s186 fu cf a0 a1 a2 a3 a4 h n k := by kernel_rfl
theorem p186 : PfOk Tryz.prog tbx mtab 186 (w5 (s186 fuX)) := pfo ⟨Tryz.f186, bd Tryz.f186, [0, 1, 2, 3, 4], [10, 11], (.q .z (.q (.q .z (.c (.q .z (.q .z .z)) .z)) (.q .z .z)))⟩ Tryz.func186 (by kernel_rfl) (by kernel_rfl) (by kernel_rfl) (by kernel_rfl) (w5_ok fun cf a0 a1 a2 a3 a4 h n k => q186 fuX cf a0 a1 a2 a3 a4 h n k)
-- cmp.Compare[int]
noncomputable def s187 (fu : Nat) (cf : CF) (a0 a1 : V) (h : H) (n : Id) (k : KV) : R :=
 cf 236 [a0] h n fun v1 h n =>
 cf 236 [a1] h n fun v2 h n =>
 brB v1 (
 brB v2 (
 k (.i .i64 0) h n) (
 k (.i .i64 (-1)) h n)) (
 brB v2 (
 k (.i .i64 1) h n) (
 evBin2 tbx .lss 3 a0 a1 fun v3 =>
 brB v3 (
 k (.i .i64 (-1)) h n) (
 evBin2 tbx .gtr 3 a0 a1 fun v4 =>
 brB v4 (
 k (.i .i64 1) h n) (
 k (.i .i64 0) h n))))
theorem q187 (fu : Nat) (cf : CF) (a0 a1 : V) (h : H) (n : Id) (k : KV) : evFn tbx mtab (fun cf _ => drF tbx mtab cf) fu cf ⟨Tryz.f187, bd Tryz.f187, [0, 1], [4], (.q .z (.q .z (.q .z (.q (.q .z (.c (.q (.q .z (.c (.q .z .z) .z)) (.q .z .z)) .z)) (.q (.q .z (.c (.q .z .z) .z)) (.q (.q .z (.c (.q .z .z) .z)) (.q (.q .z (.c (.q .z .z) .z)) (.q .z .z))))))))⟩ [a0, a1] h n k = s187 fu cf a0 a1 h n k := by kernel_rfl
theorem p187 : PfOk Tryz.prog tbx mtab 187 (w2 (s187 fuX)) := pfo ⟨Tryz.f187, bd Tryz.f187, [0, 1], [4], (.q .z (.q .z (.q .z (.q (.q .z (.c (.q (.q .z (.c (.q .z .z) .z)) (.q .z .z)) .z)) (.q (.q .z (.c (.q .z .z) .z)) (.q (.q .z (.c (.q .z .z) .z)) (.q (.q .z (.c (.q .z .z) .z)) (.q .z .z))))))))⟩ Tryz.func187 (by kernel_rfl) (by kernel_rfl) (by kernel_rfl) (by kernel_rfl) (w2_ok fun cf a0 a1 h n k => q187 fuX cf a0 a1 h n k)
-- newel/chars.Digit
noncomputable def s188 (fu : Nat) (cf : CF) (a0 : V) (h : H) (n : Id) (k : KV) : R :=
 evBin2 tbx .geq 5 a0 (.i .u8 48) fun v1 =>
 jp (fun (v2 : V) (h : H) (n : Id) =>
 jp (fun (v4 : V) (h : H) (n : Id) =>
 evPick v1 v4 (.b false) fun v6 =>
 k v6 h n) fun kk5 =>
 gdB v1 true ((evBin2 tbx .leq 5 v2 (.i .u8 57) fun v => kk5 v h n)) (kk5 (.tp []) h n)) fun kk3 =>
 gdB v1 true (kk3 a0 h n) (kk3 (.tp []) h n)
theorem q188 (fu : Nat) (cf : CF) (a0 : V) (h : H) (n : Id) (k : KV) : evFn tbx mtab (fun cf _ => drF tbx mtab cf) fu cf ⟨Tryz.f188, bd Tryz.f188, [0], [2], (.q .z (.q .z .z))⟩ [a0] h n k = s188 fu cf a0 h n k := by kernel_rfl
theorem p188 : PfOk Tryz.prog tbx mtab 188 (w1 (s188 fuX)) := pfo ⟨Tryz.f188, bd Tryz.f188, [0], [2], (.q .z (.q .z .z))⟩ Tryz.func188 (by kernel_rfl) (by kernel_rfl) (by kernel_rfl) (by kernel_rfl) (w1_ok fun cf a0 h n k => q188 fuX cf a0 h n k)
-- strings.TrimLeft
noncomputable def s190 (fu : Nat) (cf : CF) (a0 a1 : V) (h : H) (n : Id) (k : KV) : R :=
 evBin2 tbx .eql 9 a0 (.s 0 0) fun v1 =>
 jp (fun (v2 : V) (h : H) (n : Id) =>
 jp (fun (v4 : V) (h : H) (n : Id) =>
 evPick v1 (.b true) v4 fun v6 =>
 brB v6 (
 k a0 h n) (
 evLen tbx 9 a1 fun v7 =>
 evBin2 tbx .eql 3 v7 (.i .i64 1) fun v8 =>
 jp (fun (v9 : V) (h : H) (n : Id) =>
 jp (fun (v11 : V) (h : H) (n : Id) =>
 jp (fun (v13 : V) (h : H) (n : Id) =>
 evPick v8 v13 (.b false) fun v15 =>
 brB v15 (
 evIx tbx 9 a1 (.i .i64 0) fun v16 =>
 cf 237 [a0, v16] h n fun v17 h n =>
 k v17 h n) (
 cf 238 [a1] h n fun v18 h n =>
 evExt 0 v18 fun v19 =>
 evExt 1 v18 fun v20 =>
 evAlloc tbx 293 h n fun v21 h n =>
 evStore tbx 293 v21 v19 h n fun _ h n =>
 brB v20 (
 cf 239 [a0, v21] h n fun v22 h n =>
 k v22 h n) (
 cf 240 [a0, a1] h n fun v23 h n =>
 k v23 h n))) fun kk14 =>
 gdB v8 true ((evBin2 tbx .lss 5 v11 (.i .u8 128) fun v => kk14 v h n)) (kk14 (.tp []) h n)) fun kk12 =>
 gdB v8 true ((evIx tbx 9 v9 (.i .i64 0) fun v => kk12 v h n)) (kk12 (.tp []) h n)) fun kk10 =>
 gdB v8 true (kk10 a1 h n) (kk10 (.tp []) h n))) fun kk5 =>
 gdB v1 false ((evBin2 tbx .eql 9 v2 (.s 0 0) fun v => kk5 v h n)) (kk5 (.tp []) h n)) fun kk3 =>
 gdB v1 false (kk3 a1 h n) (kk3 (.tp []) h n)
theorem q190 (fu : Nat) (cf : CF) (a0 a1 : V) (h : H) (n : Id) (k : KV) : evFn tbx mtab (fun cf _ => drF tbx mtab cf) fu cf ⟨Tryz.f190, bd Tryz.f190, [0, 1], [4], (.q .z (.q (.q .z (.c (.q .z .z) .z)) (.q (.q .z (.c (.q .z .z) .z)) (.q (.q .z (.q .z (.c (.q .z .z) .z))) (.q .z .z)))))⟩ [a0, a1] h n k = s190 fu cf a0 a1 h n k := by kernel_rfl
theorem p190 : PfOk Tryz.prog tbx mtab 190 (w2 (s190 fuX)) := pfo ⟨Tryz.f190, bd Tryz.f190, [0, 1], [4], (.q .z (.q (.q .z (.c (.q .z .z) .z)) (.q (.q .z (.c (.q .z .z) .z)) (.q (.q .z (.q .z (.c (.q .z .z) .z))) (.q .z .z)))))⟩ Tryz.func190 (by kernel_rfl) (by kernel_rfl) (by kernel_rfl) (by kernel_rfl) (w2_ok fun cf a0 a1 h n k => q190 fuX cf a0 a1 h n k)
-- newel/chars.Space
noncomputable def s195 (fu : Nat) (cf : CF) (a0 : V) (h : H) (n : Id) (k : KV) : R :=
 evBin2 tbx .eql 5 a0 (.i .u8 9) fun v1 =>
 jp (fun (v2 : V) (h : H) (n : Id) =>
 jp (fun (v4 : V) (h : H) (n : Id) =>
 evPick v1 (.b true) v4 fun v6 =>
 jp (fun (v7 : V) (h : H) (n : Id) =>
 jp (fun (v9 : V) (h : H) (n : Id) =>
 evPick v6 (.b true) v9 fun v11 =>
 jp (fun (v12 : V) (h : H) (n : Id) =>
 jp (fun (v14 : V) (h : H) (n : Id) =>
 evPick v11 (.b true) v14 fun v16 =>
 k v16 h n) fun kk15 =>
 gdB v11 false ((evBin2 tbx .eql 5 v12 (.i .u8 32) fun v => kk15 v h n)) (kk15 (.tp []) h n)) fun kk13 =>
 gdB v11 false (kk13 a0 h n) (kk13 (.tp []) h n)) fun kk10 =>
 gdB v6 false ((evBin2 tbx .eql 5 v7 (.i .u8 13) fun v => kk10 v h n)) (kk10 (.tp []) h n)) fun kk8 =>
 gdB v6 false (kk8 a0 h n) (kk8 (.tp []) h n)) fun kk5 =>
 gdB v1 false ((evBin2 tbx .eql 5 v2 (.i .u8 10) fun v => kk5 v h n)) (kk5 (.tp []) h n)) fun kk3 =>
 gdB v1 false (kk3 a0 h n) (kk3 (.tp []) h n)
theorem q195 (fu : Nat) (cf : CF) (a0 : V) (h : H) (n : Id) (k : KV) : evFn tbx mtab (fun cf _ => drF tbx mtab cf) fu cf ⟨Tryz.f195, bd Tryz.f195, [0], [2], (.q .z (.q .z .z))⟩ [a0] h n k = s195 fu cf a0 h n k := by kernel_rfl
theorem p195 : PfOk Tryz.prog tbx mtab 195 (w1 (s195 fuX)) := pfo ⟨Tryz.f195, bd Tryz.f195, [0], [2], (.q .z (.q .z .z))⟩ Tryz.func195 (by kernel_rfl) (by kernel_rfl) (by kernel_rfl) (by kernel_rfl) (w1_ok fun cf a0 h n k => q195 fuX cf a0 h n k)
-- (*newel/token.walk).eat
noncomputable def s196 (fu : Nat) (cf : CF) (a0 a1 : V) (h : H) (n : Id) (k : KV) : R :=
 evNc' a0 fun v1 =>
 evFa tbx 214 0 v1 fun v2 =>
 evLoad tbx 9 v2 h fun v3 =>
 cf 174 [v3, a1] h n fun v4 h n =>
 evExt 0 v4 fun v5 =>
 evExt 1 v4 fun v6 =>
 evNc' a0 fun v7 =>
 evFa tbx 214 0 v7 fun v8 =>
 evStore tbx 9 v8 v5 h n fun _ h n =>
 k v6 h n
theorem q196 (fu : Nat) (cf : CF) (a0 a1 : V) (h : H) (n : Id) (k : KV) : evFn tbx mtab (fun cf _ => drF tbx mtab cf) fu cf ⟨Tryz.f196, bd Tryz.f196, [0, 1], [4], (.q .z (.q .z (.q .z (.q .z .z))))⟩ [a0, a1] h n k = s196 fu cf a0 a1 h n k := by kernel_rfl
theorem p196 : PfOk Tryz.prog tbx mtab 196 (w2 (s196 fuX)) := pfo ⟨Tryz.f196, bd Tryz.f196, [0, 1], [4], (.q .z (.q .z (.q .z (.q .z .z))))⟩ Tryz.func196 (by kernel_rfl) (by kernel_rfl) (by kernel_rfl) (by kernel_rfl) (w2_ok fun cf a0 a1 h n k => q196 fuX cf a0 a1 h n k)
-- (*newel/token.walk).end
noncomputable def s200 (fu : Nat) (cf : CF) (a0 : V) (h : H) (n : Id) (k : KV) : R :=
 cf 245 [a0] h n fun v1 h n =>
 cf 246 [a0] h n fun v2 h n =>
 evBin2 tbx .neq 9 v1 (.s 0 0) fun v3 =>
 jp (fun (v4 : V) (h : H) (n : Id) =>
 jp (fun (v6 : V) (h : H) (n : Id) =>
 evPick v3 v6 (.b false) fun v8 =>
 jp (fun (v9 : V) (h : H) (n : Id) =>
 jp (fun (v11 : V) (h : H) (n : Id) =>
 jp (fun (v13 : V) (h : H) (n : Id) =>
 jp (fun (v15 : V) (h : H) (n : Id) =>
 evPick v8 v15 (.b false) fun v17 =>
 k v17 h n) fun kk16 =>
 gdB v8 true ((cf 244 [v9, v13] h n kk16)) (kk16 (.tp []) h n)) fun kk14 =>
 gdB v8 true ((evBuild tbx 222 [(0, (.i .i64 2)), (1, v11)] fun v => kk14 v h n)) (kk14 (.tp []) h n)) fun kk12 =>
 gdB v8 true (kk12 v1 h n) (kk12 (.tp []) h n)) fun kk10 =>
 gdB v8 true (kk10 a0 h n) (kk10 (.tp []) h n)) fun kk7 =>
 gdB v3 true ((cf 196 [v4, (.s 1 62)] h n kk7)) (kk7 (.tp []) h n)) fun kk5 =>
 gdB v3 true (kk5 a0 h n) (kk5 (.tp []) h n)
theorem q200 (fu : Nat) (cf : CF) (a0 : V) (h : H) (n : Id) (k : KV) : evFn tbx mtab (fun cf _ => drF tbx mtab cf) fu cf ⟨Tryz.f200, bd Tryz.f200, [0], [2], (.q .z (.q .z (.q .z (.q .z .z))))⟩ [a0] h n k = s200 fu cf a0 h n k := by kernel_rfl
theorem p200 : PfOk Tryz.prog tbx mtab 200 (w1 (s200 fuX)) := pfo ⟨Tryz.f200, bd Tryz.f200, [0], [2], (.q .z (.q .z (.q .z (.q .z .z))))⟩ Tryz.func200 (by kernel_rfl) (by kernel_rfl) (by kernel_rfl) (by kernel_rfl) (w1_ok fun cf a0 h n k => q200 fuX cf a0 h n k)
-- (*newel/token.walk).begin
noncomputable def s201 (fu : Nat) (cf : CF) (a0 : V) (h : H) (n : Id) (k : KV) : R :=
 jp (fun (s3 : VT [2]) (h : H) (n : Id) =>
 pc s3 fun v6 s7 =>
 k v6 h n) fun kk1 =>
 jp (lpC [0, 3] (fun lo5 s4 h n =>
 pc s4 fun v8 s9 =>
 pc s9 fun v10 s11 =>
 cf 246 [v8] h n fun v12 h n =>
 jp (fun (s13 : VT [0, 3]) (h : H) (n : Id) =>
 pc s13 fun v15 s16 =>
 pc s16 fun v17 s18 =>
 cf 247 [v15] h n fun v19 h n =>
 evExt 0 v19 fun v20 =>
 evExt 1 v19 fun v21 =>
 evAlloc tbx 303 h n fun v22 h n =>
 evStore tbx 303 v22 v20 h n fun _ h n =>
 evUn .not v21 fun v23 =>
 jp (fun (v24 : V) (h : H) (n : Id) =>
 jp (fun (v26 : V) (h : H) (n : Id) =>
 jp (fun (v28 : V) (h : H) (n : Id) =>
 jp (fun (v30 : V) (h : H) (n : Id) =>
 evPick v23 (.b true) v30 fun v32 =>
 brB v32 (
 k (.b false) h n) (
 evFa tbx 222 3 v17 fun v33 =>
 evLoad tbx 160 v33 h fun v34 =>
 evLoad tbx 303 v22 h fun v35 =>
 evBuildSl tbx 160 1 [(0, v35)] h n fun v36 h n =>
 evApp tbx 160 160 v34 v36 h n fun v37 h n =>
 evFa tbx 222 3 v17 fun v38 =>
 evStore tbx 160 v38 v37 h n fun _ h n =>
 lo5 (v15, v17, ()) h n)) fun kk31 =>
 gdB v23 false ((cf 248 [v26, v28] h n kk31)) (kk31 (.tp []) h n)) fun kk29 =>
 gdB v23 false (kk29 (.fn 249 [v22]) h n) (kk29 (.tp []) h n)) fun kk27 =>
 gdB v23 false ((evLoad tbx 160 v24 h fun v => kk27 v h n)) (kk27 (.tp []) h n)) fun kk25 =>
 gdB v23 false ((evFa tbx 222 3 v17 fun v => kk25 v h n)) (kk25 (.tp []) h n)) fun kk14 =>
 cf 196 [v8, (.s 1 62)] h n fun v39 h n =>
 brB v39 (
 evLoad tbx 222 v10 h fun v40 =>
 cf 244 [v8, v40] h n fun v41 h n =>
 k v41 h n) (
 cf 196 [v8, (.s 2 12094)] h n fun v42 h n =>
 brB v42 (
 evFa tbx 222 4 v10 fun v43 =>
 evStore tbx 4 v43 (.b true) h n fun _ h n =>
 evLoad tbx 222 v10 h fun v44 =>
 cf 244 [v8, v44] h n fun v45 h n =>
 k v45 h n) (
 evUn .not v12 fun v46 =>
 brB v46 (
 k (.b false) h n) (
 kk14 (v8, v10, ()) h n)))) fu) fun lo2 =>
 cf 245 [a0] h n fun v47 h n =>
 evBuild tbx 222 [(0, (.i .i64 1)), (1, v47)] fun v48 =>
 evAlloc tbx 222 h n fun v49 h n =>
 evStore tbx 222 v49 v48 h n fun _ h n =>
 evFa tbx 222 1 v49 fun v50 =>
 evLoad tbx 9 v50 h fun v51 =>
 evBin2 tbx .eql 9 v51 (.s 0 0) fun v52 =>
 brB v52 (
 k (.b false) h n) (
 cf 246 [a0] h n fun v53 h n =>
 jp (fun (s54 : VT [0, 3]) (h : H) (n : Id) =>
 pc s54 fun v56 s57 =>
 pc s57 fun v58 s59 =>
 cf 247 [v56] h n fun v60 h n =>
 evExt 0 v60 fun v61 =>
 evExt 1 v60 fun v62 =>
 evAlloc tbx 303 h n fun v63 h n =>
 evStore tbx 303 v63 v61 h n fun _ h n =>
 evUn .not v62 fun v64 =>
 jp (fun (v65 : V) (h : H) (n : Id) =>
 jp (fun (v67 : V) (h : H) (n : Id) =>
 jp (fun (v69 : V) (h : H) (n : Id) =>
 jp (fun (v71 : V) (h : H) (n : Id) =>
 evPick v64 (.b true) v71 fun v73 =>
 brB v73 (
 k (.b false) h n) (
 evFa tbx 222 3 v58 fun v74 =>
 evLoad tbx 160 v74 h fun v75 =>
 evLoad tbx 303 v63 h fun v76 =>
 evBuildSl tbx 160 1 [(0, v76)] h n fun v77 h n =>
 evApp tbx 160 160 v75 v77 h n fun v78 h n =>
 evFa tbx 222 3 v58 fun v79 =>
 evStore tbx 160 v79 v78 h n fun _ h n =>
 lo2 (v56, v58, ()) h n)) fun kk72 =>
 gdB v64 false ((cf 248 [v67, v69] h n kk72)) (kk72 (.tp []) h n)) fun kk70 =>
 gdB v64 false (kk70 (.fn 249 [v63]) h n) (kk70 (.tp []) h n)) fun kk68 =>
 gdB v64 false ((evLoad tbx 160 v65 h fun v => kk68 v h n)) (kk68 (.tp []) h n)) fun kk66 =>
 gdB v64 false ((evFa tbx 222 3 v58 fun v => kk66 v h n)) (kk66 (.tp []) h n)) fun kk55 =>
 cf 196 [a0, (.s 1 62)] h n fun v80 h n =>
 brB v80 (
 evLoad tbx 222 v49 h fun v81 =>
 cf 244 [a0, v81] h n fun v82 h n =>
 k v82 h n) (
 cf 196 [a0, (.s 2 12094)] h n fun v83 h n =>
 brB v83 (
 evFa tbx 222 4 v49 fun v84 =>
 evStore tbx 4 v84 (.b true) h n fun _ h n =>
 evLoad tbx 222 v49 h fun v85 =>
 cf 244 [a0, v85] h n fun v86 h n =>
 k v86 h n) (
 evUn .not v53 fun v87 =>
 brB v87 (
 k (.b false) h n) (
 kk55 (a0, v49, ()) h n))))
theorem q201 (fu : Nat) (cf : CF) (a0 : V) (h : H) (n : Id) (k : KV) : evFn tbx mtab (fun cf _ => drF tbx mtab cf) fu cf ⟨Tryz.f201, bd Tryz.f201, [0], [2], (.q .z (.g 0 [0, 3] [2] (.q .z (.q (.q .z (.c (.q .z .z) .z)) (.q .z (.q .z (.q (.b [0, 3] (.q .z (.c (.q .z .z) (.q .z (.c (.q .z (.q .z .z)) (.q .z (.c (.q .z .z) .z))))))) (.q .z (.q (.q .z (.c (.q .z .z) .z)) (.q .z .z)))))))) (.q .z (.q .z (.q (.b [0, 3] (.q .z (.c (.q .z .z) (.q .z (.c (.q .z (.q .z .z)) (.q .z (.c (.q .z .z) .z))))))) (.q .z (.q (.q .z (.c (.q .z .z) .z)) (.q .z .z))))))))⟩ [a0] h n k = s201 fu cf a0 h n k := by kernel_rfl
theorem p201 : PfOk Tryz.prog tbx mtab 201 (w1 (s201 fuX)) := pfo ⟨Tryz.f201, bd Tryz.f201, [0], [2], (.q .z (.g 0 [0, 3] [2] (.q .z (.q (.q .z (.c (.q .z .z) .z)) (.q .z (.q .z (.q (.b [0, 3] (.q .z (.c (.q .z .z) (.q .z (.c (.q .z (.q .z .z)) (.q .z (.c (.q .z .z) .z))))))) (.q .z (.q (.q .z (.c (.q .z .z) .z)) (.q .z .z)))))))) (.q .z (.q .z (.q (.b [0, 3] (.q .z (.c (.q .z .z) (.q .z (.c (.q .z (.q .z .z)) (.q .z (.c (.q .z .z) .z))))))) (.q .z (.q (.q .z (.c (.q .z .z) .z)) (.q .z .z))))))))⟩ Tryz.func201 (by kernel_rfl) (by kernel_rfl) (by kernel_rfl) (by kernel_rfl) (w1_ok fun cf a0 h n k => q201 fuX cf a0 h n k)
-- (*newel/token.walk).text
noncomputable def s202 (fu : Nat) (cf : CF) (a0 : V) (h : H) (n : Id) (k : KV) : R :=
 evNc' a0 fun v1 =>
 evFa tbx 214 0 v1 fun v2 =>
 evLoad tbx 9 v2 h fun v3 =>
 cf 93 [v3, (.i .u8 60)] h n fun v4 h n =>
 jp (fun (s5 : VT [0, 3]) (h : H) (n : Id) =>
 pc s5 fun v7 s8 =>
 pc s8 fun v9 s10 =>
 evNc' v7 fun v11 =>
 evFa tbx 214 0 v11 fun v12 =>
 evLoad tbx 9 v12 h fun v13 =>
 evSlc tbx 9 v13 none (some v9) fun v14 =>
 cf 250 [v14] h n fun v15 h n =>
 evExt 0 v15 fun v16 =>
 evExt 1 v15 fun v17 =>
 evNc' v7 fun v18 =>
 evFa tbx 214 0 v18 fun v19 =>
 evLoad tbx 9 v19 h fun v20 =>
 evSlc tbx 9 v20 (some v9) none fun v21 =>
 evNc' v7 fun v22 =>
 evFa tbx 214 0 v22 fun v23 =>
 evStore tbx 9 v23 v21 h n fun _ h n =>
 evBin2 tbx .eql 33 v17 (.i .i64 0) fun v24 =>
 jp (fun (v25 : V) (h : H) (n : Id) =>
 jp (fun (v27 : V) (h : H) (n : Id) =>
 jp (fun (v29 : V) (h : H) (n : Id) =>
 jp (fun (v31 : V) (h : H) (n : Id) =>
 evPick v24 v31 (.b false) fun v33 =>
 k v33 h n) fun kk32 =>
 gdB v24 true ((cf 244 [v25, v29] h n kk32)) (kk32 (.tp []) h n)) fun kk30 =>
 gdB v24 true ((evBuild tbx 222 [(0, (.i .i64 3)), (2, v27)] fun v => kk30 v h n)) (kk30 (.tp []) h n)) fun kk28 =>
 gdB v24 true (kk28 v16 h n) (kk28 (.tp []) h n)) fun kk26 =>
 gdB v24 true (kk26 v7 h n) (kk26 (.tp []) h n)) fun kk6 =>
 evBin2 tbx .lss 3 v4 (.i .i64 0) fun v34 =>
 brB v34 (
 evNc' a0 fun v35 =>
 evFa tbx 214 0 v35 fun v36 =>
 evLoad tbx 9 v36 h fun v37 =>
 evLen tbx 9 v37 fun v38 =>
 kk6 (a0, v38, ()) h n) (
 kk6 (a0, v4, ()) h n)
theorem q202 (fu : Nat) (cf : CF) (a0 : V) (h : H) (n : Id) (k : KV) : evFn tbx mtab (fun cf _ => drF tbx mtab cf) fu cf ⟨Tryz.f202, bd Tryz.f202, [0], [2], (.q .z (.q .z (.s [0, 3] (.q .z (.c .z .z)) (.q .z (.q .z (.q .z .z))))))⟩ [a0] h n k = s202 fu cf a0 h n k := by kernel_rfl
theorem p202 : PfOk Tryz.prog tbx mtab 202 (w1 (s202 fuX)) := pfo ⟨Tryz.f202, bd Tryz.f202, [0], [2], (.q .z (.q .z (.s [0, 3] (.q .z (.c .z .z)) (.q .z (.q .z (.q .z .z))))))⟩ Tryz.func202 (by kernel_rfl) (by kernel_rfl) (by kernel_rfl) (by kernel_rfl) (w1_ok fun cf a0 h n k => q202 fuX cf a0 h n k)
-- (*newel/element.builder).begin
noncomputable def s203 (fu : Nat) (cf : CF) (a0 a1 : V) (h : H) (n : Id) (k : KV) : R :=
 evBox a1 h n fun v1 h n =>
 jp (fun (s2 : VT [0, 3]) (h : H) (n : Id) =>
 pc s2 fun v4 s5 =>
 pc s5 fun v6 s7 =>
 evFa tbx 222 1 v6 fun v8 =>
 evLoad tbx 9 v8 h fun v9 =>
 evFa tbx 222 3 v6 fun v10 =>
 evLoad tbx 160 v10 h fun v11 =>
 evLoad tbx 9 v8 h fun w38 => cond (eqV 6 w38 v9) (
 evLoad tbx 160 v10 h fun w37 => cond (eqV 6 w37 v11) (
 cf 252 [v11] h n fun v12 h n =>
 evBuild tbx 162 [(1, v9), (3, v12)] fun v13 =>
 evLoad tbx 9 v8 h fun w36 => cond (eqV 6 w36 v9) (
 cf 251 [v4, v13] h n fun v14 h n =>
 evBin2 tbx .neq 33 v14 (.i .i64 0) fun v15 =>
 brB v15 (
 k v14 h n) (
 jp (fun (s16 : VT []) (h : H) (n : Id) =>
 k (.i .i64 0) h n) fun kk17 =>
 evFa tbx 222 4 v6 fun v18 =>
 evLoad tbx 4 v18 h fun v19 =>
 evUn .not v19 fun v20 =>
 brB v20 (
 evNc' v4 fun v21 =>
 evFa tbx 219 1 v21 fun v22 =>
 evLoad tbx 149 v22 h fun v23 =>
 evNc' v4 fun v24 =>
 evFa tbx 219 0 v24 fun v25 =>
 evLoad tbx 114 v25 h fun v26 =>
 evLen tbx 114 v26 fun v27 =>
 evBin2 tbx .sub 3 v27 (.i .i64 1) fun v28 =>
 evLoad tbx 149 v22 h fun w35 => cond (eqV 6 w35 v23) (
 evLoad tbx 114 v25 h fun w34 => cond (eqV 6 w34 v26) (
 evBuildSl tbx 149 1 [(0, v28)] h n fun v29 h n =>
 evLoad tbx 149 v22 h fun w33 => cond (eqV 6 w33 v23) (
 evApp tbx 149 149 v23 v29 h n fun v30 h n =>
 evNc' v4 fun v31 =>
 evFa tbx 219 1 v31 fun v32 =>
 evStore tbx 149 v32 v30 h n fun _ h n =>
 kk17 (()) h n) none) none) none) (
 kk17 (()) h n))) none) none) none) fun kk3 =>
 evFa tbx 222 1 v1 fun v39 =>
 evLoad tbx 9 v39 h fun v40 =>
 evBin2 tbx .eql 9 v40 (.s 0 0) fun v41 =>
 brB v41 (
 k (.i .i64 5) h n) (
 evNc' a0 fun v42 =>
 evFa tbx 219 1 v42 fun v43 =>
 evLoad tbx 149 v43 h fun v44 =>
 evLen tbx 149 v44 fun v45 =>
 evBin2 tbx .eql 3 v45 (.i .i64 0) fun v46 =>
 jp (fun (v47 : V) (h : H) (n : Id) =>
 jp (fun (v49 : V) (h : H) (n : Id) =>
 jp (fun (v51 : V) (h : H) (n : Id) =>
 jp (fun (v53 : V) (h : H) (n : Id) =>
 jp (fun (v55 : V) (h : H) (n : Id) =>
 jp (fun (v57 : V) (h : H) (n : Id) =>
 evPick v46 v57 (.b false) fun v59 =>
 brB v59 (
 k (.i .i64 6) h n) (
 evNc' a0 fun v60 =>
 evFa tbx 219 1 v60 fun v61 =>
 evLoad tbx 149 v61 h fun v62 =>
 evLen tbx 149 v62 fun v63 =>
 evBin2 tbx .geq 3 v63 (.i .i64 20) fun v64 =>
 brB v64 (
 k (.i .i64 7) h n) (
 kk3 (a0, v1, ()) h n))) fun kk58 =>
 gdB v46 true ((evBin2 tbx .gtr 3 v55 (.i .i64 0) fun v => kk58 v h n)) (kk58 (.tp []) h n)) fun kk56 =>
 gdB v46 true ((evLen tbx 114 v53 fun v => kk56 v h n)) (kk56 (.tp []) h n)) fun kk54 =>
 gdB v46 true ((evLoad tbx 114 v51 h fun v => kk54 v h n)) (kk54 (.tp []) h n)) fun kk52 =>
 gdB v46 true ((evFa tbx 219 0 v49 fun v => kk52 v h n)) (kk52 (.tp []) h n)) fun kk50 =>
 gdB v46 true ((evNc' v47 fun v => kk50 v h n)) (kk50 (.tp []) h n)) fun kk48 =>
 gdB v46 true (kk48 a0 h n) (kk48 (.tp []) h n))
theorem q203 (fu : Nat) (cf : CF) (a0 a1 : V) (h : H) (n : Id) (k : KV) : evFn tbx mtab (fun cf _ => drF tbx mtab cf) fu cf ⟨Tryz.f203, bd Tryz.f203, [0, 1], [4], (.q .z (.q (.b [0, 3] (.q .z (.c (.q .z .z) (.q .z (.c (.q .z .z) (.q .z (.c (.q .z .z) .z))))))) (.q (.q .z (.q .z (.c (.q .z .z) .z))) (.s [] (.q .z (.c .z .z)) (.q .z .z)))))⟩ [a0, a1] h n k = s203 fu cf a0 a1 h n k := by kernel_rfl
theorem p203 : PfOk Tryz.prog tbx mtab 203 (w2 (s203 fuX)) := pfo ⟨Tryz.f203, bd Tryz.f203, [0, 1], [4], (.q .z (.q (.b [0, 3] (.q .z (.c (.q .z .z) (.q .z (.c (.q .z .z) (.q .z (.c (.q .z .z) .z))))))) (.q (.q .z (.q .z (.c (.q .z .z) .z))) (.s [] (.q .z (.c .z .z)) (.q .z .z)))))⟩ Tryz.func203 (by kernel_rfl) (by kernel_rfl) (by kernel_rfl) (by kernel_rfl) (w2_ok fun cf a0 a1 h n k => q203 fuX cf a0 a1 h n k)
-- (*newel/element.builder).end
noncomputable def s204 (fu : Nat) (cf : CF) (a0 a1 : V) (h : H) (n : Id) (k : KV) : R :=
 evBox a1 h n fun v1 h n =>
 cf 253 [a0] h n fun v2 h n =>
 evBin2 tbx .lss 3 v2 (.i .i64 0) fun v3 =>
 jp (fun (v4 : V) (h : H) (n : Id) =>
 jp (fun (v6 : V) (h : H) (n : Id) =>
 jp (fun (v8 : V) (h : H) (n : Id) =>
 jp (fun (v10 : V) (h : H) (n : Id) =>
 jp (fun (v12 : V) (h : H) (n : Id) =>
 jp (fun (v14 : V) (h : H) (n : Id) =>
 jp (fun (v16 : V) (h : H) (n : Id) =>
 jp (fun (v18 : V) (h : H) (n : Id) =>
 jp (fun (v20 : V) (h : H) (n : Id) =>
 jp (fun (v22 : V) (h : H) (n : Id) =>
 jp (fun (v24 : V) (h : H) (n : Id) =>
 evPick v3 (.b true) v24 fun v26 =>
 thenR (wsB (wV v3 false) (evLoad tbx 114 v8 h fun w27 => cond (eqV 6 w27 v10) (okR) none) (cond (eqV 2 v10 (.tp [])) okR none)) (
 thenR (wsB (wV v3 false) (evLoad tbx 9 v16 h fun w28 => cond (eqV 6 w28 v18) (okR) none) (cond (eqV 2 v18 (.tp [])) okR none)) (
 thenR (wsB (wV v3 false) (evLoad tbx 9 v20 h fun w29 => cond (eqV 6 w29 v22) (okR) none) (cond (eqV 2 v22 (.tp [])) okR none)) (
 brB v26 (
 k (.i .i64 6) h n) (
 evNc' a0 fun v30 =>
 evFa tbx 219 1 v30 fun v31 =>
 evLoad tbx 149 v31 h fun v32 =>
 evNc' a0 fun v33 =>
 evFa tbx 219 1 v33 fun v34 =>
 evLoad tbx 149 v34 h fun v35 =>
 evLen tbx 149 v35 fun v36 =>
 evBin2 tbx .sub 3 v36 (.i .i64 1) fun v37 =>
 evSlc tbx 149 v32 none (some v37) fun v38 =>
 evNc' a0 fun v39 =>
 evFa tbx 219 1 v39 fun v40 =>
 evLoad tbx 149 v31 h fun w42 => cond (eqV 6 w42 v32) (
 evLoad tbx 149 v34 h fun w41 => cond (eqV 6 w41 v35) (
 evStore tbx 149 v40 v38 h n fun _ h n =>
 k (.i .i64 0) h n) none) none))))) fun kk25 =>
 wsB (wV v3 false) ((evBin2 tbx .neq 9 v18 v22 fun v => kk25 v h n)) (kk25 (.tp []) h n)) fun kk23 =>
 wsB (wV v3 false) ((evLoad tbx 9 v20 h fun v => kk23 v h n)) (kk23 (.tp []) h n)) fun kk21 =>
 wsB (wV v3 false) ((evFa tbx 222 1 v1 fun v => kk21 v h n)) (kk21 (.tp []) h n)) fun kk19 =>
 wsB (wV v3 false) ((evLoad tbx 9 v16 h fun v => kk19 v h n)) (kk19 (.tp []) h n)) fun kk17 =>
 wsB (wV v3 false) ((evFa tbx 162 1 v14 fun v => kk17 v h n)) (kk17 (.tp []) h n)) fun kk15 =>
 wsB (wV v3 false) ((evIa tbx 114 v10 v12 fun v => kk15 v h n)) (kk15 (.tp []) h n)) fun kk13 =>
 wsB (wV v3 false) (kk13 v2 h n) (kk13 (.tp []) h n)) fun kk11 =>
 wsB (wV v3 false) ((evLoad tbx 114 v8 h fun v => kk11 v h n)) (kk11 (.tp []) h n)) fun kk9 =>
 wsB (wV v3 false) ((evFa tbx 219 0 v6 fun v => kk9 v h n)) (kk9 (.tp []) h n)) fun kk7 =>
 wsB (wV v3 false) ((evNc' v4 fun v => kk7 v h n)) (kk7 (.tp []) h n)) fun kk5 =>
 wsB (wV v3 false) (kk5 a0 h n) (kk5 (.tp []) h n)
theorem q204 (fu : Nat) (cf : CF) (a0 a1 : V) (h : H) (n : Id) (k : KV) : evFn tbx mtab (fun cf _ => drF tbx mtab cf) fu cf ⟨Tryz.f204, bd Tryz.f204, [0, 1], [4], (.q .z (.q .z (.q (.q .z (.c (.q .z .z) .z)) (.q .z (.q .z .z)))))⟩ [a0, a1] h n k = s204 fu cf a0 a1 h n k := by kernel_rfl
theorem p204 : PfOk Tryz.prog tbx mtab 204 (w2 (s204 fuX)) := pfo ⟨Tryz.f204, bd Tryz.f204, [0, 1], [4], (.q .z (.q .z (.q (.q .z (.c (.q .z .z) .z)) (.q .z (.q .z .z)))))⟩ Tryz.func204 (by kernel_rfl) (by kernel_rfl) (by kernel_rfl) (by kernel_rfl) (w2_ok fun cf a0 a1 h n k => q204 fuX cf a0 a1 h n k)
-- (*newel/element.builder).text
noncomputable def s205 (fu : Nat) (cf : CF) (a0 a1 : V) (h : H) (n : Id) (k : KV) : R :=
 cf 253 [a0] h n fun v1 h n =>
 evBin2 tbx .lss 3 v1 (.i .i64 0) fun v2 =>
 brB v2 (
 cf 210 [a1] h n fun v3 h n =>
 evBin2 tbx .neq 9 v3 (.s 0 0) fun v4 =>
 brB v4 (
 k (.i .i64 6) h n) (
 k (.i .i64 0) h n)) (
 evBin2 tbx .eql 9 a1 (.s 0 0) fun v5 =>
 brB v5 (
 k (.i .i64 0) h n) (
 evNc' a0 fun v6 =>
 evFa tbx 219 2 v6 fun v7 =>
 evLoad tbx 217 v7 h fun v8 =>
 evLook tbx mtab 217 v8 v1 true h fun v9 =>
 evExt 0 v9 fun v10 =>
 evExt 1 v9 fun v11 =>
 jp (fun (v12 : V) (h : H) (n : Id) =>
 jp (fun (v14 : V) (h : H) (n : Id) =>
 jp (fun (v16 : V) (h : H) (n : Id) =>
 jp (fun (v18 : V) (h : H) (n : Id) =>
 jp (fun (v20 : V) (h : H) (n : Id) =>
 jp (fun (v22 : V) (h : H) (n : Id) =>
 jp (fun (v24 : V) (h : H) (n : Id) =>
 jp (fun (v26 : V) (h : H) (n : Id) =>
 jp (fun (v28 : V) (h : H) (n : Id) =>
 evPick v11 v28 (.b false) fun v30 =>
 brB v30 (
 evNc' a0 fun v31 =>
 evFa tbx 219 0 v31 fun v32 =>
 evLoad tbx 114 v32 h fun v33 =>
 evIa tbx 114 v33 v10 fun v34 =>
 evFa tbx 162 2 v34 fun v35 =>
 evLoad tbx 9 v35 h fun v36 =>
 evBin2 tbx .add 9 v36 a1 fun v37 =>
 evIa tbx 114 v33 v10 fun v38 =>
 evFa tbx 162 2 v38 fun v39 =>
 evStore tbx 9 v39 v37 h n fun _ h n =>
 k (.i .i64 0) h n) (
 evBuild tbx 162 [(2, a1)] fun v40 =>
 cf 251 [a0, v40] h n fun v41 h n =>
 k v41 h n)) fun kk29 =>
 gdB v11 true ((evBin2 tbx .eql 9 v26 (.s 0 0) fun v => kk29 v h n)) (kk29 (.tp []) h n)) fun kk27 =>
 gdB v11 true ((evLoad tbx 9 v24 h fun v => kk27 v h n)) (kk27 (.tp []) h n)) fun kk25 =>
 gdB v11 true ((evFa tbx 162 1 v22 fun v => kk25 v h n)) (kk25 (.tp []) h n)) fun kk23 =>
 gdB v11 true ((evIa tbx 114 v18 v20 fun v => kk23 v h n)) (kk23 (.tp []) h n)) fun kk21 =>
 gdB v11 true (kk21 v10 h n) (kk21 (.tp []) h n)) fun kk19 =>
 gdB v11 true ((evLoad tbx 114 v16 h fun v => kk19 v h n)) (kk19 (.tp []) h n)) fun kk17 =>
 gdB v11 true ((evFa tbx 219 0 v14 fun v => kk17 v h n)) (kk17 (.tp []) h n)) fun kk15 =>
 gdB v11 true ((evNc' v12 fun v => kk15 v h n)) (kk15 (.tp []) h n)) fun kk13 =>
 gdB v11 true (kk13 a0 h n) (kk13 (.tp []) h n)))
theorem q205 (fu : Nat) (cf : CF) (a0 a1 : V) (h : H) (n : Id) (k : KV) : evFn tbx mtab (fun cf _ => drF tbx mtab cf) fu cf ⟨Tryz.f205, bd Tryz.f205, [0, 1], [4], (.q .z (.q .z (.q (.q .z (.c (.q (.q .z (.c (.q .z .z) .z)) (.q .z .z)) .z)) (.q (.q .z (.c (.q .z .z) .z)) (.q (.q .z (.q .z (.c (.q .z (.q .z .z)) .z))) (.q .z .z))))))⟩ [a0, a1] h n k = s205 fu cf a0 a1 h n k := by kernel_rfl
theorem p205 : PfOk Tryz.prog tbx mtab 205 (w2 (s205 fuX)) := pfo ⟨Tryz.f205, bd Tryz.f205, [0, 1], [4], (.q .z (.q .z (.q (.q .z (.c (.q (.q .z (.c (.q .z .z) .z)) (.q .z .z)) .z)) (.q (.q .z (.c (.q .z .z) .z)) (.q (.q .z (.q .z (.c (.q .z (.q .z .z)) .z))) (.q .z .z))))))⟩ Tryz.func205 (by kernel_rfl) (by kernel_rfl) (by kernel_rfl) (by kernel_rfl) (w2_ok fun cf a0 a1 h n k => q205 fuX cf a0 a1 h n k)
-- newel/markup.allowed
noncomputable def s206 (fu : Nat) (cf : CF) (a0 : V) (h : H) (n : Id) (k : KV) : R :=
 evConv2 tbx mtab 9 73 a0 h n fun v1 h n =>
 cf 91 [v1, (.fn 254 [])] h n fun v2 h n =>
 evUn .not v2 fun v3 =>
 k v3 h n
theorem q206 (fu : Nat) (cf : CF) (a0 : V) (h : H) (n : Id) (k : KV) : evFn tbx mtab (fun cf _ => drF tbx mtab cf) fu cf ⟨Tryz.f206, bd Tryz.f206, [0], [2], (.q .z (.q .z .z))⟩ [a0] h n k = s206 fu cf a0 h n k := by kernel_rfl
theorem p206 : PfOk Tryz.prog tbx mtab 206 (w1 (s206 fuX)) := pfo ⟨Tryz.f206, bd Tryz.f206, [0], [2], (.q .z (.q .z .z))⟩ Tryz.func206 (by kernel_rfl) (by kernel_rfl) (by kernel_rfl) (by kernel_rfl) (w1_ok fun cf a0 h n k => q206 fuX cf a0 h n k)
-- newel/chars.Name
noncomputable def s207 (fu : Nat) (cf : CF) (a0 : V) (h : H) (n : Id) (k : KV) : R :=
 evBin2 tbx .neq 9 a0 (.s 0 0) fun v1 =>
 jp (fun (v2 : V) (h : H) (n : Id) =>
 jp (fun (v4 : V) (h : H) (n : Id) =>
 jp (fun (v6 : V) (h : H) (n : Id) =>
 jp (fun (v8 : V) (h : H) (n : Id) =>
 evPick v1 v8 (.b false) fun v10 =>
 k v10 h n) fun kk9 =>
 gdB v1 true ((evBin2 tbx .eql 9 v4 v6 fun v => kk9 v h n)) (kk9 (.tp []) h n)) fun kk7 =>
 gdB v1 true (kk7 a0 h n) (kk7 (.tp []) h n)) fun kk5 =>
 gdB v1 true ((cf 255 [v2] h n kk5)) (kk5 (.tp []) h n)) fun kk3 =>
 gdB v1 true (kk3 a0 h n) (kk3 (.tp []) h n)
theorem q207 (fu : Nat) (cf : CF) (a0 : V) (h : H) (n : Id) (k : KV) : evFn tbx mtab (fun cf _ => drF tbx mtab cf) fu cf ⟨Tryz.f207, bd Tryz.f207, [0], [2], (.q .z (.q .z .z))⟩ [a0] h n k = s207 fu cf a0 h n k := by kernel_rfl
theorem p207 : PfOk Tryz.prog tbx mtab 207 (w1 (s207 fuX)) := pfo ⟨Tryz.f207, bd Tryz.f207, [0], [2], (.q .z (.q .z .z))⟩ Tryz.func207 (by kernel_rfl) (by kernel_rfl) (by kernel_rfl) (by kernel_rfl) (w1_ok fun cf a0 h n k => q207 fuX cf a0 h n k)
-- newel/markup.attrs
noncomputable def s208 (fu : Nat) (cf : CF) (a0 : V) (h : H) (n : Id) (k : KV) : R :=
 evMkMap h n fun v1 h n =>
 evLen tbx 160 a0 fun v2 =>
 jp (fun (s3 : VT []) (h : H) (n : Id) =>
 k (.b true) h n) fun kk4 =>
 lpC [3, 7, 8, 9] (fun lo6 s5 h n =>
 pc s5 fun v7 s8 =>
 pc s8 fun v9 s10 =>
 pc s10 fun v11 s12 =>
 pc s12 fun v13 s14 =>
 evBin2 tbx .lss 3 v13 v11 fun v15 =>
 brB v15 (
 jp (fun (s16 : VT [3, 7, 8, 9]) (h : H) (n : Id) =>
 pc s16 fun v18 s19 =>
 pc s19 fun v20 s21 =>
 pc s21 fun v22 s23 =>
 pc s23 fun v24 s25 =>
 evBin2 tbx .add 3 v24 (.i .i64 1) fun v26 =>
 lo6 (v18, v20, v22, v26, ()) h n) fun kk17 =>
 evIa tbx 160 v9 v13 fun v27 =>
 evLoad tbx 303 v27 h fun v28 =>
 evAlloc tbx 303 h n fun v29 h n =>
 evStore tbx 303 v29 v28 h n fun _ h n =>
 evFa tbx 303 0 v29 fun v30 =>
 evLoad tbx 9 v30 h fun v31 =>
 cf 207 [v31] h n fun v32 h n =>
 evUn .not v32 fun v33 =>
 jp (fun (v34 : V) (h : H) (n : Id) =>
 jp (fun (v36 : V) (h : H) (n : Id) =>
 jp (fun (v38 : V) (h : H) (n : Id) =>
 jp (fun (v40 : V) (h : H) (n : Id) =>
 evPick v33 (.b true) v40 fun v42 =>
 jp (fun (v43 : V) (h : H) (n : Id) =>
 jp (fun (v45 : V) (h : H) (n : Id) =>
 jp (fun (v47 : V) (h : H) (n : Id) =>
 jp (fun (v49 : V) (h : H) (n : Id) =>
 evPick v42 (.b true) v49 fun v51 =>
 brB v51 (
 k (.b false) h n) (
 evFa tbx 303 0 v29 fun v52 =>
 evLoad tbx 9 v52 h fun v53 =>
 evMapUpd mtab 227 v7 v53 (.b true) h n fun _ h n =>
 kk17 (v7, v9, v11, v13, ()) h n)) fun kk50 =>
 gdB v42 false ((evUn .not v47 fun v => kk50 v h n)) (kk50 (.tp []) h n)) fun kk48 =>
 gdB v42 false ((cf 206 [v45] h n kk48)) (kk48 (.tp []) h n)) fun kk46 =>
 gdB v42 false ((evLoad tbx 9 v43 h fun v => kk46 v h n)) (kk46 (.tp []) h n)) fun kk44 =>
 gdB v42 false ((evFa tbx 303 1 v29 fun v => kk44 v h n)) (kk44 (.tp []) h n)) fun kk41 =>
 gdB v33 false ((evLook tbx mtab 227 v34 v38 false h fun v => kk41 v h n)) (kk41 (.tp []) h n)) fun kk39 =>
 gdB v33 false ((evLoad tbx 9 v36 h fun v => kk39 v h n)) (kk39 (.tp []) h n)) fun kk37 =>
 gdB v33 false ((evFa tbx 303 0 v29 fun v => kk37 v h n)) (kk37 (.tp []) h n)) fun kk35 =>
 gdB v33 false (kk35 v7 h n) (kk35 (.tp []) h n)) (
 kk4 (()) h n)) fu (v1, a0, v2, (.i .i64 0), ()) h n
theorem q208 (fu : Nat) (cf : CF) (a0 : V) (h : H) (n : Id) (k : KV) : evFn tbx mtab (fun cf _ => drF tbx mtab cf) fu cf ⟨Tryz.f208, bd Tryz.f208, [0], [2], (.q .z (.q .z (.q (.q .z (.b [] (.l [3, 7, 8, 9] (.q .z (.q (.c .z .z) (.q (.b [3, 7, 8, 9] (.q .z (.q (.q .z (.c (.q .z .z) .z)) .z))) .z)))))) (.q .z .z))))⟩ [a0] h n k = s208 fu cf a0 h n k := by kernel_rfl
theorem p208 : PfOk Tryz.prog tbx mtab 208 (w1 (s208 fuX)) := pfo ⟨Tryz.f208, bd Tryz.f208, [0], [2], (.q .z (.q .z (.q (.q .z (.b [] (.l [3, 7, 8, 9] (.q .z (.q (.c .z .z) (.q (.b [3, 7, 8, 9] (.q .z (.q (.q .z (.c (.q .z .z) .z)) .z))) .z)))))) (.q .z .z))))⟩ Tryz.func208 (by kernel_rfl) (by kernel_rfl) (by kernel_rfl) (by kernel_rfl) (w1_ok fun cf a0 h n k => q208 fuX cf a0 h n k)
-- slices.Index[newel/markup.path,int]
noncomputable def s209 (fu : Nat) (cf : CF) (a0 a1 : V) (h : H) (n : Id) (k : KV) : R :=
 evLen tbx 224 a0 fun v1 =>
 jp (fun (s2 : VT []) (h : H) (n : Id) =>
 k (.i .i64 (-1)) h n) fun kk3 =>
 lpC [0, 1, 7, 8] (fun lo5 s4 h n =>
 pc s4 fun v6 s7 =>
 pc s7 fun v8 s9 =>
 pc s9 fun v10 s11 =>
 pc s11 fun v12 s13 =>
 evBin2 tbx .lss 3 v12 v10 fun v14 =>
 brB v14 (
 jp (fun (s15 : VT [0, 1, 7, 8]) (h : H) (n : Id) =>
 pc s15 fun v17 s18 =>
 pc s18 fun v19 s20 =>
 pc s20 fun v21 s22 =>
 pc s22 fun v23 s24 =>
 evBin2 tbx .add 3 v23 (.i .i64 1) fun v25 =>
 lo5 (v17, v19, v21, v25, ()) h n) fun kk16 =>
 evIa tbx 224 v6 v12 fun v26 =>
 evLoad tbx 3 v26 h fun v27 =>
 evBin2 tbx .eql 3 v8 v27 fun v28 =>
 brB v28 (
 k v12 h n) (
 kk16 (v6, v8, v10, v12, ()) h n)) (
 kk3 (()) h n)) fu (a0, a1, v1, (.i .i64 0), ()) h n
theorem q209 (fu : Nat) (cf : CF) (a0 a1 : V) (h : H) (n : Id) (k : KV) : evFn tbx mtab (fun cf _ => drF tbx mtab cf) fu cf ⟨Tryz.f209, bd Tryz.f209, [0, 1], [4], (.q .z (.q (.q .z (.b [] (.l [0, 1, 7, 8] (.q .z (.q (.c .z .z) (.q (.b [0, 1, 7, 8] (.q .z (.q .z (.c (.q .z .z) .z)))) .z)))))) (.q .z .z)))⟩ [a0, a1] h n k = s209 fu cf a0 a1 h n k := by kernel_rfl
theorem p209 : PfOk Tryz.prog tbx mtab 209 (w2 (s209 fuX)) := pfo ⟨Tryz.f209, bd Tryz.f209, [0, 1], [4], (.q .z (.q (.q .z (.b [] (.l [0, 1, 7, 8] (.q .z (.q (.c .z .z) (.q (.b [0, 1, 7, 8] (.q .z (.q .z (.c (.q .z .z) .z)))) .z)))))) (.q .z .z)))⟩ Tryz.func209 (by kernel_rfl) (by kernel_rfl) (by kernel_rfl) (by kernel_rfl) (w2_ok fun cf a0 a1 h n k => q209 fuX cf a0 a1 h n k)
-- newel/chars.Trim
noncomputable def s210 (fu : Nat) (cf : CF) (a0 : V) (h : H) (n : Id) (k : KV) : R :=
 jp (fun (s1 : VT [0]) (h : H) (n : Id) =>
 pc s1 fun v3 s4 =>
 jp (fun (s5 : VT [0]) (h : H) (n : Id) =>
 pc s5 fun v7 s8 =>
 k v7 h n) fun kk6 =>
 lpC [0] (fun lo10 s9 h n =>
 pc s9 fun v11 s12 =>
 evBin2 tbx .neq 9 v11 (.s 0 0) fun v13 =>
 jp (fun (v14 : V) (h : H) (n : Id) =>
 jp (fun (v16 : V) (h : H) (n : Id) =>
 jp (fun (v18 : V) (h : H) (n : Id) =>
 jp (fun (v20 : V) (h : H) (n : Id) =>
 jp (fun (v22 : V) (h : H) (n : Id) =>
 jp (fun (v24 : V) (h : H) (n : Id) =>
 evPick v13 v24 (.b false) fun v26 =>
 brB v26 (
 jp (fun (s27 : VT [0]) (h : H) (n : Id) =>
 pc s27 fun v29 s30 =>
 lo10 (v29, ()) h n) fun kk28 =>
 evLen tbx 9 v11 fun v31 =>
 evBin2 tbx .sub 3 v31 (.i .i64 1) fun v32 =>
 evSlc tbx 9 v11 none (some v32) fun v33 =>
 kk28 (v33, ()) h n) (
 kk6 (v11, ()) h n)) fun kk25 =>
 gdB v13 true ((cf 195 [v22] h n kk25)) (kk25 (.tp []) h n)) fun kk23 =>
 gdB v13 true ((evIx tbx 9 v14 v20 fun v => kk23 v h n)) (kk23 (.tp []) h n)) fun kk21 =>
 gdB v13 true ((evBin2 tbx .sub 3 v18 (.i .i64 1) fun v => kk21 v h n)) (kk21 (.tp []) h n)) fun kk19 =>
 gdB v13 true ((evLen tbx 9 v16 fun v => kk19 v h n)) (kk19 (.tp []) h n)) fun kk17 =>
 gdB v13 true (kk17 v11 h n) (kk17 (.tp []) h n)) fun kk15 =>
 gdB v13 true (kk15 v11 h n) (kk15 (.tp []) h n)) fu (v3, ()) h n) fun kk2 =>
 lpC [0] (fun lo35 s34 h n =>
 pc s34 fun v36 s37 =>
 evBin2 tbx .neq 9 v36 (.s 0 0) fun v38 =>
 jp (fun (v39 : V) (h : H) (n : Id) =>
 jp (fun (v41 : V) (h : H) (n : Id) =>
 jp (fun (v43 : V) (h : H) (n : Id) =>
 evPick v38 v43 (.b false) fun v45 =>
 brB v45 (
 jp (fun (s46 : VT [0]) (h : H) (n : Id) =>
 pc s46 fun v48 s49 =>
 lo35 (v48, ()) h n) fun kk47 =>
 evSlc tbx 9 v36 (some (.i .i64 1)) none fun v50 =>
 kk47 (v50, ()) h n) (
 kk2 (v36, ()) h n)) fun kk44 =>
 gdB v38 true ((cf 195 [v41] h n kk44)) (kk44 (.tp []) h n)) fun kk42 =>
 gdB v38 true ((evIx tbx 9 v39 (.i .i64 0) fun v => kk42 v h n)) (kk42 (.tp []) h n)) fun kk40 =>
 gdB v38 true (kk40 v36 h n) (kk40 (.tp []) h n)) fu (a0, ()) h n
theorem q210 (fu : Nat) (cf : CF) (a0 : V) (h : H) (n : Id) (k : KV) : evFn tbx mtab (fun cf _ => drF tbx mtab cf) fu cf ⟨Tryz.f210, bd Tryz.f210, [0], [2], (.q .z (.q (.b [0] (.l [0] (.q (.q .z (.c .z .z)) (.b [0] .z)))) (.q (.b [0] (.l [0] (.q (.q .z (.c .z .z)) (.b [0] .z)))) (.q .z .z))))⟩ [a0] h n k = s210 fu cf a0 h n k := by kernel_rfl
theorem p210 : PfOk Tryz.prog tbx mtab 210 (w1 (s210 fuX)) := pfo ⟨Tryz.f210, bd Tryz.f210, [0], [2], (.q .z (.q (.b [0] (.l [0] (.q (.q .z (.c .z .z)) (.b [0] .z)))) (.q (.b [0] (.l [0] (.q (.q .z (.c .z .z)) (.b [0] .z)))) (.q .z .z))))⟩ Tryz.func210 (by kernel_rfl) (by kernel_rfl) (by kernel_rfl) (by kernel_rfl) (w1_ok fun cf a0 h n k => q210 fuX cf a0 h n k)
-- newel/element.Inner
noncomputable def s211 (fu : Nat) (cf : CF) (a0 a1 : V) (h : H) (n : Id) (k : KV) : R :=
 evAlloc tbx 314 h n fun v1 h n =>
 cf 256 [a0, a1] h n fun v2 h n =>
 evLen tbx 149 v2 fun v3 =>
 jp (fun (s4 : VT [5]) (h : H) (n : Id) =>
 pc s4 fun v6 s7 =>
 cf 258 [v6] h n fun v8 h n =>
 k v8 h n) fun kk5 =>
 lpC [0, 5, 10, 11, 12] (fun lo10 s9 h n =>
 pc s9 fun v11 s12 =>
 pc s12 fun v13 s14 =>
 pc s14 fun v15 s16 =>
 pc s16 fun v17 s18 =>
 pc s18 fun v19 s20 =>
 evBin2 tbx .lss 3 v19 v17 fun v21 =>
 brB v21 (
 jp (fun (s22 : VT [0, 5, 10, 11, 12]) (h : H) (n : Id) =>
 pc s22 fun v24 s25 =>
 pc s25 fun v26 s27 =>
 pc s27 fun v28 s29 =>
 pc s29 fun v30 s31 =>
 pc s31 fun v32 s33 =>
 evBin2 tbx .add 3 v32 (.i .i64 1) fun v34 =>
 lo10 (v24, v26, v28, v30, v34, ()) h n) fun kk23 =>
 evIa tbx 149 v15 v19 fun v35 =>
 evLoad tbx 3 v35 h fun v36 =>
 evIa tbx 114 v11 v36 fun v37 =>
 evFa tbx 162 1 v37 fun v38 =>
 evLoad tbx 9 v38 h fun v39 =>
 evBin2 tbx .eql 9 v39 (.s 0 0) fun v40 =>
 brB v40 (
 evIa tbx 114 v11 v36 fun v41 =>
 evFa tbx 162 2 v41 fun v42 =>
 evLoad tbx 9 v42 h fun v43 =>
 cf 257 [v13, v43] h n fun v44 h n =>
 kk23 (v11, v13, v15, v17, v19, ()) h n) (
 kk23 (v11, v13, v15, v17, v19, ()) h n)) (
 kk5 (v13, ()) h n)) fu (a0, v1, v2, v3, (.i .i64 0), ()) h n
theorem q211 (fu : Nat) (cf : CF) (a0 a1 : V) (h : H) (n : Id) (k : KV) : evFn tbx mtab (fun cf _ => drF tbx mtab cf) fu cf ⟨Tryz.f211, bd Tryz.f211, [0, 1], [4], (.q .z (.q .z (.q (.q .z (.b [5] (.l [0, 5, 10, 11, 12] (.q .z (.q (.c .z .z) (.q (.b [0, 5, 10, 11, 12] (.q .z (.q .z (.c .z .z)))) .z)))))) (.q .z .z))))⟩ [a0, a1] h n k = s211 fu cf a0 a1 h n k := by kernel_rfl
theorem p211 : PfOk Tryz.prog tbx mtab 211 (w2 (s211 fuX)) := pfo ⟨Tryz.f211, bd Tryz.f211, [0, 1], [4], (.q .z (.q .z (.q (.q .z (.b [5] (.l [0, 5, 10, 11, 12] (.q .z (.q (.c .z .z) (.q (.b [0, 5, 10, 11, 12] (.q .z (.q .z (.c .z .z)))) .z)))))) (.q .z .z))))⟩ Tryz.func211 (by kernel_rfl) (by kernel_rfl) (by kernel_rfl) (by kernel_rfl) (w2_ok fun cf a0 a1 h n k => q211 fuX cf a0 a1 h n k)
-- (*newel/pom.reader).many$1
noncomputable def s212 (fu : Nat) (cf : CF) (a0 a1 a2 a3 a4 a5 : V) (h : H) (n : Id) (k : KV) : R :=
 evLoad tbx 163 a1 h fun v1 =>
 evNc' v1 fun v2 =>
 evFa tbx 166 0 v2 fun v3 =>
 evLoad tbx 114 v3 h fun v4 =>
 evIa tbx 114 v4 a0 fun v5 =>
 evFa tbx 162 1 v5 fun v6 =>
 evLoad tbx 9 v6 h fun v7 =>
 evLoad tbx 9 a2 h fun v8 =>
 evBin2 tbx .neq 9 v7 v8 fun v9 =>
 evLoad tbx 163 a1 h fun w20 => cond (eqV 6 w20 v1) (
 evLoad tbx 114 v3 h fun w19 => cond (eqV 6 w19 v4) (
 evLoad tbx 9 v6 h fun w18 => cond (eqV 6 w18 v7) (
 evLoad tbx 9 a2 h fun w17 => cond (eqV 6 w17 v8) (
 brB v9 (
 k (.i .i64 0) h n) (
 evLoad tbx 3 a3 h fun v10 =>
 evBin2 tbx .add 3 v10 (.i .i64 1) fun v11 =>
 evStore tbx 3 a3 v11 h n fun _ h n =>
 evLoad tbx 3 a3 h fun v12 =>
 evLoad tbx 3 a4 h fun v13 =>
 evBin2 tbx .gtr 3 v12 v13 fun v14 =>
 brB v14 (
 k (.i .i64 3) h n) (
 evLoad tbx 104 a5 h fun v15 =>
 evCall cf v15 [a0] h n fun v16 h n =>
 k v16 h n))) none) none) none) none
theorem q212 (fu : Nat) (cf : CF) (a0 a1 a2 a3 a4 a5 : V) (h : H) (n : Id) (k : KV) : evFn tbx mtab (fun cf _ => drF tbx mtab cf) fu cf ⟨Tryz.f212, bd Tryz.f212, [0, 1, 2, 3, 4, 5], [7], (.q .z (.q (.q .z (.c (.q .z .z) .z)) (.q .z (.q (.q .z (.c (.q .z .z) .z)) (.q .z .z)))))⟩ [a0, a1, a2, a3, a4, a5] h n k = s212 fu cf a0 a1 a2 a3 a4 a5 h n k := by kernel_rfl
theorem p212 : PfOk Tryz.prog tbx mtab 212 (w6 (s212 fuX)) := pfo ⟨Tryz.f212, bd Tryz.f212, [0, 1, 2, 3, 4, 5], [7], (.q .z (.q (.q .z (.c (.q .z .z) .z)) (.q .z (.q (.q .z (.c (.q .z .z) .z)) (.q .z .z)))))⟩ Tryz.func212 (by kernel_rfl) (by kernel_rfl) (by kernel_rfl) (by kernel_rfl) (w6_ok fun cf a0 a1 a2 a3 a4 a5 h n k => q212 fuX cf a0 a1 a2 a3 a4 a5 h n k)
-- (*newel/pom.reader).optional$1
noncomputable def s213 (fu : Nat) (cf : CF) (a0 a1 a2 : V) (h : H) (n : Id) (k : KV) : R :=
 evLoad tbx 163 a1 h fun v1 =>
 cf 148 [v1, a0] h n fun v2 h n =>
 evExt 0 v2 fun v3 =>
 evExt 1 v2 fun v4 =>
 jp (fun (s5 : VT [2, 5, 6]) (h : H) (n : Id) =>
 pc s5 fun v7 s8 =>
 pc s8 fun v9 s10 =>
 pc s10 fun v11 s12 =>
 evLoad tbx 233 v7 h fun v13 =>
 evBin2 tbx .eql 9 v9 (.s 4 1953658213) fun v14 =>
 evNc' v13 fun v15 =>
 evStore tbx 4 v15 v14 h n fun _ h n =>
 k v11 h n) fun kk6 =>
 evBin2 tbx .eql 33 v4 (.i .i64 0) fun v16 =>
 jp (fun (v17 : V) (h : H) (n : Id) =>
 jp (fun (v19 : V) (h : H) (n : Id) =>
 evPick v16 v19 (.b false) fun v21 =>
 jp (fun (v22 : V) (h : H) (n : Id) =>
 jp (fun (v24 : V) (h : H) (n : Id) =>
 evPick v21 v24 (.b false) fun v26 =>
 jp (fun (v27 : V) (h : H) (n : Id) =>
 jp (fun (v29 : V) (h : H) (n : Id) =>
 evPick v26 v29 (.b false) fun v31 =>
 brB v31 (
 kk6 (a2, v3, (.i .i64 10), ()) h n) (
 kk6 (a2, v3, v4, ()) h n)) fun kk30 =>
 gdB v26 true ((evBin2 tbx .neq 9 v27 (.s 5 439721161573) fun v => kk30 v h n)) (kk30 (.tp []) h n)) fun kk28 =>
 gdB v26 true (kk28 v3 h n) (kk28 (.tp []) h n)) fun kk25 =>
 gdB v21 true ((evBin2 tbx .neq 9 v22 (.s 4 1953658213) fun v => kk25 v h n)) (kk25 (.tp []) h n)) fun kk23 =>
 gdB v21 true (kk23 v3 h n) (kk23 (.tp []) h n)) fun kk20 =>
 gdB v16 true ((evBin2 tbx .neq 9 v17 (.s 0 0) fun v => kk20 v h n)) (kk20 (.tp []) h n)) fun kk18 =>
 gdB v16 true (kk18 v3 h n) (kk18 (.tp []) h n)
theorem q213 (fu : Nat) (cf : CF) (a0 a1 a2 : V) (h : H) (n : Id) (k : KV) : evFn tbx mtab (fun cf _ => drF tbx mtab cf) fu cf ⟨Tryz.f213, bd Tryz.f213, [0, 1, 2], [4], (.q .z (.q .z (.s [2, 5, 6] (.q .z (.c .z .z)) (.q .z (.q .z .z)))))⟩ [a0, a1, a2] h n k = s213 fu cf a0 a1 a2 h n k := by kernel_rfl
theorem p213 : PfOk Tryz.prog tbx mtab 213 (w3 (s213 fuX)) := pfo ⟨Tryz.f213, bd Tryz.f213, [0, 1, 2], [4], (.q .z (.q .z (.s [2, 5, 6] (.q .z (.c .z .z)) (.q .z (.q .z .z)))))⟩ Tryz.func213 (by kernel_rfl) (by kernel_rfl) (by kernel_rfl) (by kernel_rfl) (w3_ok fun cf a0 a1 a2 h n k => q213 fuX cf a0 a1 a2 h n k)
-- (*newel/pom.reader).excluded$1
noncomputable def s214 (fu : Nat) (cf : CF) (a0 a1 a2 : V) (h : H) (n : Id) (k : KV) : R :=
 evLoad tbx 163 a1 h fun v1 =>
 let v2 : V := (.fn 215 [a1, a2])
 cf 154 [v1, a0, (.s 9 1871796048003613683566), (.i .i64 50), v2] h n fun v3 h n =>
 k v3 h n
theorem q214 (fu : Nat) (cf : CF) (a0 a1 a2 : V) (h : H) (n : Id) (k : KV) : evFn tbx mtab (fun cf _ => drF tbx mtab cf) fu cf ⟨Tryz.f214, bd Tryz.f214, [0, 1, 2], [4], (.q .z (.q .z .z))⟩ [a0, a1, a2] h n k = s214 fu cf a0 a1 a2 h n k := by kernel_rfl
theorem p214 : PfOk Tryz.prog tbx mtab 214 (w3 (s214 fuX)) := pfo ⟨Tryz.f214, bd Tryz.f214, [0, 1, 2], [4], (.q .z (.q .z .z))⟩ Tryz.func214 (by kernel_rfl) (by kernel_rfl) (by kernel_rfl) (by kernel_rfl) (w3_ok fun cf a0 a1 a2 h n k => q214 fuX cf a0 a1 a2 h n k)
end Go.Proofs.Nw.X
end
