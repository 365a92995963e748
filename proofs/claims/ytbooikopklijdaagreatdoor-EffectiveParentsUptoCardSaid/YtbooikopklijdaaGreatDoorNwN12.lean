/- Bundle: NwXN5. -/
import Derived.Test.YtbooikopklijdaaGreatDoorNwN11
set_option linter.constructorNameAsVariable false
set_option linter.unusedVariables false
set_option linter.unusedSimpArgs false
set_option linter.unusedSectionVars false
section
/- printed by xg.py: seat F's functions, 5. -/
open Go Go.RowKit Go.Proofs
set_option linter.unusedVariables false
set_option maxRecDepth 100000
namespace Go.Proofs.Nw.X
open Go.Proofs.Nw.K
noncomputable def s227 (fu : Nat) (cf : CF) (a0 : V) (h : H) (n : Id) (k : KV) : R :=
 evBox a0 h n fun v1 h n =>
 evFa tbx 250 0 v1 fun v2 =>
 evLoad tbx 9 v2 h fun v3 =>
 evFa tbx 250 2 v1 fun v4 =>
 evLoad tbx 4 v4 h fun v5 =>
 cf 275 [v3, v5] h n fun v6 h n =>
 evUn .not v6 fun v7 =>
 jp (fun (v8 : V) h n =>
 jp (fun (v10 : V) h n =>
 jp (fun (v12 : V) h n =>
 jp (fun (v14 : V) h n =>
 jp (fun (v16 : V) h n =>
 jp (fun (v18 : V) h n =>
 evPick v7 (.b true) v18 fun v20 =>
 brB v20 (
 k (.b false) h n) (
 evFa tbx 250 0 v1 fun v21 =>
 evLoad tbx 9 v21 h fun v22 =>
 evBin2 tbx .eql 9 v22 (.s 0 0) fun v23 =>
 jp (fun (v24 : V) h n =>
 jp (fun (v26 : V) h n =>
 jp (fun (v28 : V) h n =>
 evPick v23 (.b true) v28 fun v30 =>
 brB v30 (
 k (.b true) h n) (
 evFa tbx 250 0 v1 fun v31 =>
 evLoad tbx 9 v31 h fun v32 =>
 evFa tbx 250 1 v1 fun v33 =>
 evLoad tbx 9 v33 h fun v34 =>
 cf 57 [v32, v34] h n fun v35 h n =>
 evBin2 tbx .lss 3 v35 (.i .i64 0) fun v36 =>
 jp (fun (v37 : V) h n =>
 jp (fun (v39 : V) h n =>
 jp (fun (v41 : V) h n =>
 jp (fun (v43 : V) h n =>
 jp (fun (v45 : V) h n =>
 jp (fun (v47 : V) h n =>
 jp (fun (v49 : V) h n =>
 jp (fun (v51 : V) h n =>
 jp (fun (v53 : V) h n =>
 jp (fun (v55 : V) h n =>
 evPick v36 (.b true) v55 fun v57 =>
 k v57 h n) fun kk56 =>
 gdB v36 false ((evPick v49 v53 (.b false) fun v => kk56 v h n)) (kk56 (.tp []) h n)) fun kk54 =>
 gdB v49 true ((evLoad tbx 4 v51 h fun v => kk54 v h n)) (kk54 (.tp []) h n)) fun kk52 =>
 gdB v49 true ((evFa tbx 250 3 v1 fun v => kk52 v h n)) (kk52 (.tp []) h n)) fun kk50 =>
 gdB v36 false (kk50 v47 h n) (kk50 (.tp []) h n)) fun kk48 =>
 gdB v36 false ((evPick v41 v45 (.b false) fun v => kk48 v h n)) (kk48 (.tp []) h n)) fun kk46 =>
 gdB v41 true ((evLoad tbx 4 v43 h fun v => kk46 v h n)) (kk46 (.tp []) h n)) fun kk44 =>
 gdB v41 true ((evFa tbx 250 2 v1 fun v => kk44 v h n)) (kk44 (.tp []) h n)) fun kk42 =>
 gdB v36 false (kk42 v39 h n) (kk42 (.tp []) h n)) fun kk40 =>
 gdB v36 false ((evBin2 tbx .eql 3 v37 (.i .i64 0) fun v => kk40 v h n)) (kk40 (.tp []) h n)) fun kk38 =>
 gdB v36 false (kk38 v35 h n) (kk38 (.tp []) h n))) fun kk29 =>
 gdB v23 false ((evBin2 tbx .eql 9 v26 (.s 0 0) fun v => kk29 v h n)) (kk29 (.tp []) h n)) fun kk27 =>
 gdB v23 false ((evLoad tbx 9 v24 h fun v => kk27 v h n)) (kk27 (.tp []) h n)) fun kk25 =>
 gdB v23 false ((evFa tbx 250 1 v1 fun v => kk25 v h n)) (kk25 (.tp []) h n))) fun kk19 =>
 gdB v7 false ((evUn .not v16 fun v => kk19 v h n)) (kk19 (.tp []) h n)) fun kk17 =>
 gdB v7 false ((cf 275 [v10, v14] h n kk17)) (kk17 (.tp []) h n)) fun kk15 =>
 gdB v7 false ((evLoad tbx 4 v12 h fun v => kk15 v h n)) (kk15 (.tp []) h n)) fun kk13 =>
 gdB v7 false ((evFa tbx 250 3 v1 fun v => kk13 v h n)) (kk13 (.tp []) h n)) fun kk11 =>
 gdB v7 false ((evLoad tbx 9 v8 h fun v => kk11 v h n)) (kk11 (.tp []) h n)) fun kk9 =>
 gdB v7 false ((evFa tbx 250 1 v1 fun v => kk9 v h n)) (kk9 (.tp []) h n)
noncomputable def e227 : FE := ⟨Tryz.f227, bd Tryz.f227, [0], [2], (.q .z (.q (.q .z (.c (.q .z .z) .z)) (.q (.q .z (.c (.q .z .z) .z)) (.q .z (.q .z .z)))))⟩
theorem q227 (fu : Nat) (cf : CF) (a0 : V) (h : H) (n : Id) (k : KV) : evF fu cf e227 [a0] h n k = s227 fu cf a0 h n k := by kernel_rfl
theorem p227 : PfOk Tryz.prog tbx mtab 227 (w1 (s227 fuX)) := pfo e227 Tryz.func227 (by kernel_rfl) (w1_ok (q227 fuX))
noncomputable def s228 (fu : Nat) (cf : CF) (a0 a1 : V) (h : H) (n : Id) (k : KV) : R :=
 cf 223 [a0, a1] h n fun v1 h n =>
 evUn .not v1 fun v2 =>
 brB v2 (
 k (.tp [a0, (.b false)]) h n) (
 evLen tbx 9 a1 fun v3 =>
 evSlc tbx 9 a0 (some v3) none fun v4 =>
 k (.tp [v4, (.b true)]) h n)
noncomputable def e228 : FE := ⟨Tryz.f228, bd Tryz.f228, [0, 1], [4, 5], (.q .z (.q (.q .z (.c (.q .z .z) .z)) (.q .z .z)))⟩
theorem q228 (fu : Nat) (cf : CF) (a0 a1 : V) (h : H) (n : Id) (k : KV) : evF fu cf e228 [a0, a1] h n k = s228 fu cf a0 a1 h n k := by kernel_rfl
theorem p228 : PfOk Tryz.prog tbx mtab 228 (w2 (s228 fuX)) := pfo e228 Tryz.func228 (by kernel_rfl) (w2_ok (q228 fuX))
noncomputable def s234 (fu : Nat) (cf : CF) (a0 a1 : V) (h : H) (n : Id) (k : KV) : R :=
 evLen tbx 49 a0 fun v1 =>
 jp (fun (s2 : VT []) h n =>
 k (.i .i64 (-1)) h n) fun kk3 =>
 lpC [0, 1, 7, 8] (fun lo5 s4 h n =>
 pc s4 fun v6 s7 =>
 pc s7 fun v8 s9 =>
 pc s9 fun v10 s11 =>
 pc s11 fun v12 s13 =>
 evBin2 tbx .lss 3 v12 v10 fun v14 =>
 brB v14 (
 jp (fun (s15 : VT [0, 1, 7, 8]) h n =>
 pc s15 fun v17 s18 =>
 pc s18 fun v19 s20 =>
 pc s20 fun v21 s22 =>
 pc s22 fun v23 s24 =>
 evBin2 tbx .add 3 v23 (.i .i64 1) fun v25 =>
 lo5 (v17, v19, v21, v25, ()) h n) fun kk16 =>
 evIa tbx 49 v6 v12 fun v26 =>
 evLoad tbx 63 v26 h fun v27 =>
 evCall cf v8 [v27] h n fun v28 h n =>
 brB v28 (
 k v12 h n) (
 kk16 (v6, v8, v10, v12, ()) h n)) (
 kk3 (()) h n)) fu (a0, a1, v1, (.i .i64 0), ()) h n
noncomputable def e234 : FE := ⟨Tryz.f234, bd Tryz.f234, [0, 1], [4], (.q .z (.q (.q .z (.b [] (.l [0, 1, 7, 8] (.q .z (.q (.c .z .z) (.q (.b [0, 1, 7, 8] (.q .z (.q .z (.c (.q .z .z) .z)))) .z)))))) (.q .z .z)))⟩
theorem q234 (fu : Nat) (cf : CF) (a0 a1 : V) (h : H) (n : Id) (k : KV) : evF fu cf e234 [a0, a1] h n k = s234 fu cf a0 a1 h n k := by kernel_rfl
theorem p234 : PfOk Tryz.prog tbx mtab 234 (w2 (s234 fuX)) := pfo e234 Tryz.func234 (by kernel_rfl) (w2_ok (q234 fuX))
noncomputable def s236 (fu : Nat) (cf : CF) (a0 : V) (h : H) (n : Id) (k : KV) : R :=
 evBin2 tbx .neq 3 a0 a0 fun v1 =>
 k v1 h n
noncomputable def e236 : FE := ⟨Tryz.f236, bd Tryz.f236, [0], [2], (.q .z (.q .z .z))⟩
theorem q236 (fu : Nat) (cf : CF) (a0 : V) (h : H) (n : Id) (k : KV) : evF fu cf e236 [a0] h n k = s236 fu cf a0 h n k := by kernel_rfl
theorem p236 : PfOk Tryz.prog tbx mtab 236 (w1 (s236 fuX)) := pfo e236 Tryz.func236 (by kernel_rfl) (w1_ok (q236 fuX))
noncomputable def s237 (fu : Nat) (cf : CF) (a0 a1 : V) (h : H) (n : Id) (k : KV) : R :=
 jp (fun (s1 : VT [0]) h n =>
 pc s1 fun v3 s4 =>
 k v3 h n) fun kk2 =>
 lpC [0, 1] (fun lo6 s5 h n =>
 pc s5 fun v7 s8 =>
 pc s8 fun v9 s10 =>
 evLen tbx 9 v7 fun v11 =>
 evBin2 tbx .gtr 3 v11 (.i .i64 0) fun v12 =>
 jp (fun (v13 : V) h n =>
 jp (fun (v15 : V) h n =>
 jp (fun (v17 : V) h n =>
 jp (fun (v19 : V) h n =>
 evPick v12 v19 (.b false) fun v21 =>
 brB v21 (
 jp (fun (s22 : VT [0, 1]) h n =>
 pc s22 fun v24 s25 =>
 pc s25 fun v26 s27 =>
 lo6 (v24, v26, ()) h n) fun kk23 =>
 evSlc tbx 9 v7 (some (.i .i64 1)) none fun v28 =>
 kk23 (v28, v9, ()) h n) (
 kk2 (v7, ()) h n)) fun kk20 =>
 gdB v12 true ((evBin2 tbx .eql 5 v15 v17 fun v => kk20 v h n)) (kk20 (.tp []) h n)) fun kk18 =>
 gdB v12 true (kk18 v9 h n) (kk18 (.tp []) h n)) fun kk16 =>
 gdB v12 true ((evIx tbx 9 v13 (.i .i64 0) fun v => kk16 v h n)) (kk16 (.tp []) h n)) fun kk14 =>
 gdB v12 true (kk14 v7 h n) (kk14 (.tp []) h n)) fu (a0, a1, ()) h n
noncomputable def e237 : FE := ⟨Tryz.f237, bd Tryz.f237, [0, 1], [4], (.q .z (.q (.b [0] (.l [0, 1] (.q (.q .z (.c .z .z)) (.b [0, 1] .z)))) (.q .z .z)))⟩
theorem q237 (fu : Nat) (cf : CF) (a0 a1 : V) (h : H) (n : Id) (k : KV) : evF fu cf e237 [a0, a1] h n k = s237 fu cf a0 a1 h n k := by kernel_rfl
theorem p237 : PfOk Tryz.prog tbx mtab 237 (w2 (s237 fuX)) := pfo e237 Tryz.func237 (by kernel_rfl) (w2_ok (q237 fuX))
noncomputable def s238 (fu : Nat) (cf : CF) (a0 : V) (h : H) (n : Id) (k : KV) : R :=
 evAlloc tbx 293 h n fun v1 h n =>
 jp (fun (s2 : VT [2]) h n =>
 pc s2 fun v4 s5 =>
 evLoad tbx 293 v4 h fun v6 =>
 evStore tbx 293 v4 v6 h n fun _ h n =>
 evLoad tbx 293 v4 h fun v7 =>
 k (.tp [v7, (.b true)]) h n) fun kk3 =>
 lpC [0, 2, 4] (fun lo9 s8 h n =>
 pc s8 fun v10 s11 =>
 pc s11 fun v12 s13 =>
 pc s13 fun v14 s15 =>
 evLen tbx 9 v10 fun v16 =>
 evBin2 tbx .lss 3 v14 v16 fun v17 =>
 brB v17 (
 jp (fun (s18 : VT [0, 2, 4]) h n =>
 pc s18 fun v20 s21 =>
 pc s21 fun v22 s23 =>
 pc s23 fun v24 s25 =>
 evBin2 tbx .add 3 v24 (.i .i64 1) fun v26 =>
 lo9 (v20, v22, v26, ()) h n) fun kk19 =>
 evIx tbx 9 v10 v14 fun v27 =>
 evBin2 tbx .geq 5 v27 (.i .u8 128) fun v28 =>
 brB v28 (
 evLoad tbx 293 v12 h fun v29 =>
 evStore tbx 293 v12 v29 h n fun _ h n =>
 evLoad tbx 293 v12 h fun v30 =>
 k (.tp [v30, (.b false)]) h n) (
 evIa tbx 293 v12 v27 fun v31 =>
 evStore tbx 4 v31 (.b true) h n fun _ h n =>
 kk19 (v10, v12, v14, ()) h n)) (
 kk3 (v12, ()) h n)) fu (a0, v1, (.i .i64 0), ()) h n
noncomputable def e238 : FE := ⟨Tryz.f238, bd Tryz.f238, [0], [2, 3], (.q .z (.q (.q .z (.b [2] (.l [0, 2, 4] (.q (.q .z (.c .z .z)) (.q (.b [0, 2, 4] (.q .z (.q (.q .z (.c (.q .z .z) .z)) .z))) .z))))) (.q .z .z)))⟩
theorem q238 (fu : Nat) (cf : CF) (a0 : V) (h : H) (n : Id) (k : KV) : evF fu cf e238 [a0] h n k = s238 fu cf a0 h n k := by kernel_rfl
theorem p238 : PfOk Tryz.prog tbx mtab 238 (w1 (s238 fuX)) := pfo e238 Tryz.func238 (by kernel_rfl) (w1_ok (q238 fuX))
noncomputable def s244 (fu : Nat) (cf : CF) (a0 a1 : V) (h : H) (n : Id) (k : KV) : R :=
 evBox a1 h n fun v1 h n =>
 evNc' a0 fun v2 =>
 evFa tbx 214 1 v2 fun v3 =>
 evLoad tbx 155 v3 h fun v4 =>
 evLoad tbx 222 v1 h fun v5 =>
 evLoad tbx 155 v3 h fun w12 => cond (eqV 6 w12 v4) (
 evLoad tbx 222 v1 h fun w11 => cond (eqV 6 w11 v5) (
 evBuildSl tbx 155 1 [(0, v5)] h n fun v6 h n =>
 evLoad tbx 155 v3 h fun w10 => cond (eqV 6 w10 v4) (
 evApp tbx 155 155 v4 v6 h n fun v7 h n =>
 evNc' a0 fun v8 =>
 evFa tbx 214 1 v8 fun v9 =>
 evStore tbx 155 v9 v7 h n fun _ h n =>
 k (.b true) h n) none) none) none
noncomputable def e244 : FE := ⟨Tryz.f244, bd Tryz.f244, [0, 1], [4], (.q .z (.q .z (.q .z .z)))⟩
theorem q244 (fu : Nat) (cf : CF) (a0 a1 : V) (h : H) (n : Id) (k : KV) : evF fu cf e244 [a0, a1] h n k = s244 fu cf a0 a1 h n k := by kernel_rfl
theorem p244 : PfOk Tryz.prog tbx mtab 244 (w2 (s244 fuX)) := pfo e244 Tryz.func244 (by kernel_rfl) (w2_ok (q244 fuX))
noncomputable def s245 (fu : Nat) (cf : CF) (a0 : V) (h : H) (n : Id) (k : KV) : R :=
 evNc' a0 fun v1 =>
 evFa tbx 214 0 v1 fun v2 =>
 evLoad tbx 9 v2 h fun v3 =>
 cf 255 [v3] h n fun v4 h n =>
 evNc' a0 fun v5 =>
 evFa tbx 214 0 v5 fun v6 =>
 evLoad tbx 9 v6 h fun v7 =>
 evLen tbx 9 v4 fun v8 =>
 evSlc tbx 9 v7 (some v8) none fun v9 =>
 evNc' a0 fun v10 =>
 evFa tbx 214 0 v10 fun v11 =>
 evStore tbx 9 v11 v9 h n fun _ h n =>
 k v4 h n
noncomputable def e245 : FE := ⟨Tryz.f245, bd Tryz.f245, [0], [2], (.q .z (.q .z (.q .z (.q .z .z))))⟩
theorem q245 (fu : Nat) (cf : CF) (a0 : V) (h : H) (n : Id) (k : KV) : evF fu cf e245 [a0] h n k = s245 fu cf a0 h n k := by kernel_rfl
theorem p245 : PfOk Tryz.prog tbx mtab 245 (w1 (s245 fuX)) := pfo e245 Tryz.func245 (by kernel_rfl) (w1_ok (q245 fuX))
noncomputable def s246 (fu : Nat) (cf : CF) (a0 : V) (h : H) (n : Id) (k : KV) : R :=
 jp (fun (s1 : VT [0, 3]) h n =>
 pc s1 fun v3 s4 =>
 pc s4 fun v5 s6 =>
 evNc' v3 fun v7 =>
 evFa tbx 214 0 v7 fun v8 =>
 evLoad tbx 9 v8 h fun v9 =>
 evSlc tbx 9 v9 (some v5) none fun v10 =>
 evNc' v3 fun v11 =>
 evFa tbx 214 0 v11 fun v12 =>
 evStore tbx 9 v12 v10 h n fun _ h n =>
 evBin2 tbx .gtr 3 v5 (.i .i64 0) fun v13 =>
 k v13 h n) fun kk2 =>
 lpC [0, 3] (fun lo15 s14 h n =>
 pc s14 fun v16 s17 =>
 pc s17 fun v18 s19 =>
 evNc' v16 fun v20 =>
 evFa tbx 214 0 v20 fun v21 =>
 evLoad tbx 9 v21 h fun v22 =>
 evLen tbx 9 v22 fun v23 =>
 evBin2 tbx .lss 3 v18 v23 fun v24 =>
 jp (fun (v25 : V) h n =>
 jp (fun (v27 : V) h n =>
 jp (fun (v29 : V) h n =>
 jp (fun (v31 : V) h n =>
 jp (fun (v33 : V) h n =>
 jp (fun (v35 : V) h n =>
 jp (fun (v37 : V) h n =>
 evPick v24 v37 (.b false) fun v39 =>
 brB v39 (
 jp (fun (s40 : VT [0, 3]) h n =>
 pc s40 fun v42 s43 =>
 pc s43 fun v44 s45 =>
 lo15 (v42, v44, ()) h n) fun kk41 =>
 evBin2 tbx .add 3 v18 (.i .i64 1) fun v46 =>
 kk41 (v16, v46, ()) h n) (
 kk2 (v16, v18, ()) h n)) fun kk38 =>
 gdB v24 true ((cf 195 [v35] h n kk38)) (kk38 (.tp []) h n)) fun kk36 =>
 gdB v24 true ((evIx tbx 9 v31 v33 fun v => kk36 v h n)) (kk36 (.tp []) h n)) fun kk34 =>
 gdB v24 true (kk34 v18 h n) (kk34 (.tp []) h n)) fun kk32 =>
 gdB v24 true ((evLoad tbx 9 v29 h fun v => kk32 v h n)) (kk32 (.tp []) h n)) fun kk30 =>
 gdB v24 true ((evFa tbx 214 0 v27 fun v => kk30 v h n)) (kk30 (.tp []) h n)) fun kk28 =>
 gdB v24 true ((evNc' v25 fun v => kk28 v h n)) (kk28 (.tp []) h n)) fun kk26 =>
 gdB v24 true (kk26 v16 h n) (kk26 (.tp []) h n)) fu (a0, (.i .i64 0), ()) h n
noncomputable def e246 : FE := ⟨Tryz.f246, bd Tryz.f246, [0], [2], (.q .z (.q .z (.q (.b [0, 3] (.l [0, 3] (.q (.q .z (.c .z .z)) (.b [0, 3] .z)))) (.q .z (.q .z .z)))))⟩
theorem q246 (fu : Nat) (cf : CF) (a0 : V) (h : H) (n : Id) (k : KV) : evF fu cf e246 [a0] h n k = s246 fu cf a0 h n k := by kernel_rfl
theorem p246 : PfOk Tryz.prog tbx mtab 246 (w1 (s246 fuX)) := pfo e246 Tryz.func246 (by kernel_rfl) (w1_ok (q246 fuX))
noncomputable def s248 (fu : Nat) (cf : CF) (a0 a1 : V) (h : H) (n : Id) (k : KV) : R :=
 cf 289 [a0, a1] h n fun v1 h n =>
 evBin2 tbx .geq 3 v1 (.i .i64 0) fun v2 =>
 k v2 h n
noncomputable def e248 : FE := ⟨Tryz.f248, bd Tryz.f248, [0, 1], [4], (.q .z (.q .z .z))⟩
theorem q248 (fu : Nat) (cf : CF) (a0 a1 : V) (h : H) (n : Id) (k : KV) : evF fu cf e248 [a0, a1] h n k = s248 fu cf a0 a1 h n k := by kernel_rfl
theorem p248 : PfOk Tryz.prog tbx mtab 248 (w2 (s248 fuX)) := pfo e248 Tryz.func248 (by kernel_rfl) (w2_ok (q248 fuX))
noncomputable def s249 (fu : Nat) (cf : CF) (a0 a1 : V) (h : H) (n : Id) (k : KV) : R :=
 evBox a0 h n fun v1 h n =>
 evFa tbx 303 0 v1 fun v2 =>
 evLoad tbx 9 v2 h fun v3 =>
 evFa tbx 303 0 a1 fun v4 =>
 evLoad tbx 9 v4 h fun v5 =>
 evBin2 tbx .eql 9 v3 v5 fun v6 =>
 k v6 h n
noncomputable def e249 : FE := ⟨Tryz.f249, bd Tryz.f249, [0, 1], [3], (.q .z (.q .z .z))⟩
theorem q249 (fu : Nat) (cf : CF) (a0 a1 : V) (h : H) (n : Id) (k : KV) : evF fu cf e249 [a0, a1] h n k = s249 fu cf a0 a1 h n k := by kernel_rfl
theorem p249 : PfOk Tryz.prog tbx mtab 249 (w2 (s249 fuX)) := pfo e249 Tryz.func249 (by kernel_rfl) (w2_ok (q249 fuX))
noncomputable def s250 (fu : Nat) (cf : CF) (a0 : V) (h : H) (n : Id) (k : KV) : R :=
 evAlloc tbx 314 h n fun v1 h n =>
 jp (fun (s2 : VT [2, 3]) h n =>
 pc s2 fun v4 s5 =>
 pc s5 fun v6 s7 =>
 k (.tp [v4, v6]) h n) fun kk3 =>
 lpC [0, 4] (fun lo9 s8 h n =>
 pc s8 fun v10 s11 =>
 pc s11 fun v12 s13 =>
 jp (fun (s14 : VT [0, 4]) h n =>
 pc s14 fun v16 s17 =>
 pc s17 fun v18 s19 =>
 lo9 (v16, v18, ()) h n) fun kk15 =>
 cf 225 [v10, (.s 1 38)] h n fun v20 h n =>
 evExt 0 v20 fun v21 =>
 evExt 1 v20 fun v22 =>
 evExt 2 v20 fun v23 =>
 cf 257 [v12, v21] h n fun v24 h n =>
 evUn .not v23 fun v25 =>
 brB v25 (
 cf 258 [v12] h n fun v26 h n =>
 k (.tp [v26, (.i .i64 0)]) h n) (
 cf 225 [v22, (.s 1 59)] h n fun v27 h n =>
 evExt 0 v27 fun v28 =>
 evExt 1 v27 fun v29 =>
 evExt 2 v27 fun v30 =>
 cf 290 [v28] h n fun v31 h n =>
 evExt 0 v31 fun v32 =>
 evExt 1 v31 fun v33 =>
 evUn .not v30 fun v34 =>
 jp (fun (v35 : V) h n =>
 jp (fun (v37 : V) h n =>
 evPick v34 (.b true) v37 fun v39 =>
 brB v39 (
 k (.tp [(.s 0 0), (.i .i64 5)]) h n) (
 cf 257 [v12, v32] h n fun v40 h n =>
 kk15 (v29, v12, ()) h n)) fun kk38 =>
 gdB v34 false ((evUn .not v35 fun v => kk38 v h n)) (kk38 (.tp []) h n)) fun kk36 =>
 gdB v34 false (kk36 v33 h n) (kk36 (.tp []) h n))) fu (a0, v1, ()) h n
noncomputable def e250 : FE := ⟨Tryz.f250, bd Tryz.f250, [0], [2, 3], (.q .z (.q .z (.b [2, 3] (.l [0, 4] (.b [0, 4] (.q .z (.q .z (.q (.q .z (.c (.q .z .z) .z)) (.q .z (.q .z (.q (.q .z (.c (.q .z .z) .z)) (.q .z .z))))))))))))⟩
theorem q250 (fu : Nat) (cf : CF) (a0 : V) (h : H) (n : Id) (k : KV) : evF fu cf e250 [a0] h n k = s250 fu cf a0 h n k := by kernel_rfl
theorem p250 : PfOk Tryz.prog tbx mtab 250 (w1 (s250 fuX)) := pfo e250 Tryz.func250 (by kernel_rfl) (w1_ok (q250 fuX))
noncomputable def s251 (fu : Nat) (cf : CF) (a0 a1 : V) (h : H) (n : Id) (k : KV) : R :=
 evBox a1 h n fun v1 h n =>
 evNc' a0 fun v2 =>
 evFa tbx 219 0 v2 fun v3 =>
 evLoad tbx 114 v3 h fun v4 =>
 evLen tbx 114 v4 fun v5 =>
 evBin2 tbx .geq 3 v5 (.i .i64 2000) fun v6 =>
 brB v6 (
 k (.i .i64 3) h n) (
 cf 253 [a0] h n fun v7 h n =>
 evFa tbx 162 0 v1 fun v8 =>
 evStore tbx 3 v8 v7 h n fun _ h n =>
 evNc' a0 fun v9 =>
 evFa tbx 219 2 v9 fun v10 =>
 evLoad tbx 217 v10 h fun v11 =>
 evFa tbx 162 0 v1 fun v12 =>
 evLoad tbx 3 v12 h fun v13 =>
 evNc' a0 fun v14 =>
 evFa tbx 219 0 v14 fun v15 =>
 evLoad tbx 114 v15 h fun v16 =>
 evLen tbx 114 v16 fun v17 =>
 evLoad tbx 217 v10 h fun w31 => cond (eqV 6 w31 v11) (
 evLoad tbx 3 v12 h fun w30 => cond (eqV 6 w30 v13) (
 evLoad tbx 114 v15 h fun w29 => cond (eqV 6 w29 v16) (
 evMapUpd mtab 217 v11 v13 v17 h n fun _ h n =>
 evNc' a0 fun v18 =>
 evFa tbx 219 0 v18 fun v19 =>
 evLoad tbx 114 v19 h fun v20 =>
 evLoad tbx 162 v1 h fun v21 =>
 evLoad tbx 114 v19 h fun w28 => cond (eqV 6 w28 v20) (
 evLoad tbx 162 v1 h fun w27 => cond (eqV 6 w27 v21) (
 evBuildSl tbx 114 1 [(0, v21)] h n fun v22 h n =>
 evLoad tbx 114 v19 h fun w26 => cond (eqV 6 w26 v20) (
 evApp tbx 114 114 v20 v22 h n fun v23 h n =>
 evNc' a0 fun v24 =>
 evFa tbx 219 0 v24 fun v25 =>
 evStore tbx 114 v25 v23 h n fun _ h n =>
 k (.i .i64 0) h n) none) none) none) none) none) none)
noncomputable def e251 : FE := ⟨Tryz.f251, bd Tryz.f251, [0, 1], [4], (.q .z (.q (.q .z (.c (.q .z .z) .z)) (.q .z (.q .z (.q .z (.q .z .z))))))⟩
theorem q251 (fu : Nat) (cf : CF) (a0 a1 : V) (h : H) (n : Id) (k : KV) : evF fu cf e251 [a0, a1] h n k = s251 fu cf a0 a1 h n k := by kernel_rfl
theorem p251 : PfOk Tryz.prog tbx mtab 251 (w2 (s251 fuX)) := pfo e251 Tryz.func251 (by kernel_rfl) (w2_ok (q251 fuX))
noncomputable def s252 (fu : Nat) (cf : CF) (a0 : V) (h : H) (n : Id) (k : KV) : R :=
 evBin2 tbx .eql 160 a0 .ns fun v1 =>
 brB v1 (
 k .ns h n) (
 evBuildSl tbx 160 0 [] h n fun v2 h n =>
 evApp tbx 160 160 v2 a0 h n fun v3 h n =>
 k v3 h n)
noncomputable def e252 : FE := ⟨Tryz.f252, bd Tryz.f252, [0], [2], (.q .z (.q (.q .z (.c (.q .z .z) .z)) (.q .z .z)))⟩
theorem q252 (fu : Nat) (cf : CF) (a0 : V) (h : H) (n : Id) (k : KV) : evF fu cf e252 [a0] h n k = s252 fu cf a0 h n k := by kernel_rfl
theorem p252 : PfOk Tryz.prog tbx mtab 252 (w1 (s252 fuX)) := pfo e252 Tryz.func252 (by kernel_rfl) (w1_ok (q252 fuX))
noncomputable def s253 (fu : Nat) (cf : CF) (a0 : V) (h : H) (n : Id) (k : KV) : R :=
 evNc' a0 fun v1 =>
 evFa tbx 219 1 v1 fun v2 =>
 evLoad tbx 149 v2 h fun v3 =>
 evLen tbx 149 v3 fun v4 =>
 evBin2 tbx .eql 3 v4 (.i .i64 0) fun v5 =>
 brB v5 (
 k (.i .i64 (-1)) h n) (
 evNc' a0 fun v6 =>
 evFa tbx 219 1 v6 fun v7 =>
 evLoad tbx 149 v7 h fun v8 =>
 evNc' a0 fun v9 =>
 evFa tbx 219 1 v9 fun v10 =>
 evLoad tbx 149 v10 h fun v11 =>
 evLen tbx 149 v11 fun v12 =>
 evBin2 tbx .sub 3 v12 (.i .i64 1) fun v13 =>
 evIa tbx 149 v8 v13 fun v14 =>
 evLoad tbx 3 v14 h fun v15 =>
 evLoad tbx 149 v7 h fun w18 => cond (eqV 6 w18 v8) (
 evLoad tbx 149 v10 h fun w17 => cond (eqV 6 w17 v11) (
 evLoad tbx 3 v14 h fun w16 => cond (eqV 6 w16 v15) (
 k v15 h n) none) none) none)
noncomputable def e253 : FE := ⟨Tryz.f253, bd Tryz.f253, [0], [2], (.q .z (.q (.q .z (.c (.q .z .z) .z)) (.q .z .z)))⟩
theorem q253 (fu : Nat) (cf : CF) (a0 : V) (h : H) (n : Id) (k : KV) : evF fu cf e253 [a0] h n k = s253 fu cf a0 h n k := by kernel_rfl
theorem p253 : PfOk Tryz.prog tbx mtab 253 (w1 (s253 fuX)) := pfo e253 Tryz.func253 (by kernel_rfl) (w1_ok (q253 fuX))
noncomputable def s254 (fu : Nat) (cf : CF) (a0 : V) (h : H) (n : Id) (k : KV) : R :=
 cf 140 [a0] h n fun v1 h n =>
 evUn .not v1 fun v2 =>
 k v2 h n
noncomputable def e254 : FE := ⟨Tryz.f254, bd Tryz.f254, [0], [2], (.q .z (.q .z .z))⟩
theorem q254 (fu : Nat) (cf : CF) (a0 : V) (h : H) (n : Id) (k : KV) : evF fu cf e254 [a0] h n k = s254 fu cf a0 h n k := by kernel_rfl
theorem p254 : PfOk Tryz.prog tbx mtab 254 (w1 (s254 fuX)) := pfo e254 Tryz.func254 (by kernel_rfl) (w1_ok (q254 fuX))
noncomputable def s255 (fu : Nat) (cf : CF) (a0 : V) (h : H) (n : Id) (k : KV) : R :=
 jp (fun (s3 : VT [2]) h n =>
 pc s3 fun v6 s7 =>
 k v6 h n) fun kk1 =>
 jp (lpC [0, 3] (fun lo5 s4 h n =>
 pc s4 fun v8 s9 =>
 pc s9 fun v10 s11 =>
 evLen tbx 9 v8 fun v12 =>
 evBin2 tbx .lss 3 v10 v12 fun v13 =>
 jp (fun (v14 : V) h n =>
 jp (fun (v16 : V) h n =>
 jp (fun (v18 : V) h n =>
 jp (fun (v20 : V) h n =>
 evPick v13 v20 (.b false) fun v22 =>
 brB v22 (
 evBin2 tbx .add 3 v10 (.i .i64 1) fun v23 =>
 lo5 (v8, v23, ()) h n) (
 evSlc tbx 9 v8 none (some v10) fun v24 =>
 k v24 h n)) fun kk21 =>
 gdB v13 true ((cf 292 [v18] h n kk21)) (kk21 (.tp []) h n)) fun kk19 =>
 gdB v13 true ((evIx tbx 9 v14 v16 fun v => kk19 v h n)) (kk19 (.tp []) h n)) fun kk17 =>
 gdB v13 true (kk17 v10 h n) (kk17 (.tp []) h n)) fun kk15 =>
 gdB v13 true (kk15 v8 h n) (kk15 (.tp []) h n)) fu) fun lo2 =>
 evBin2 tbx .eql 9 a0 (.s 0 0) fun v25 =>
 jp (fun (v26 : V) h n =>
 jp (fun (v28 : V) h n =>
 jp (fun (v30 : V) h n =>
 jp (fun (v32 : V) h n =>
 evPick v25 (.b true) v32 fun v34 =>
 brB v34 (
 k (.s 0 0) h n) (
 evLen tbx 9 a0 fun v35 =>
 evBin2 tbx .lss 3 (.i .i64 1) v35 fun v36 =>
 jp (fun (v37 : V) h n =>
 jp (fun (v39 : V) h n =>
 jp (fun (v41 : V) h n =>
 jp (fun (v43 : V) h n =>
 evPick v36 v43 (.b false) fun v45 =>
 brB v45 (
 evBin2 tbx .add 3 (.i .i64 1) (.i .i64 1) fun v46 =>
 lo2 (a0, v46, ()) h n) (
 evSlc tbx 9 a0 none (some (.i .i64 1)) fun v47 =>
 k v47 h n)) fun kk44 =>
 gdB v36 true ((cf 292 [v41] h n kk44)) (kk44 (.tp []) h n)) fun kk42 =>
 gdB v36 true ((evIx tbx 9 v37 v39 fun v => kk42 v h n)) (kk42 (.tp []) h n)) fun kk40 =>
 gdB v36 true (kk40 (.i .i64 1) h n) (kk40 (.tp []) h n)) fun kk38 =>
 gdB v36 true (kk38 a0 h n) (kk38 (.tp []) h n))) fun kk33 =>
 gdB v25 false ((evUn .not v30 fun v => kk33 v h n)) (kk33 (.tp []) h n)) fun kk31 =>
 gdB v25 false ((cf 291 [v28] h n kk31)) (kk31 (.tp []) h n)) fun kk29 =>
 gdB v25 false ((evIx tbx 9 v26 (.i .i64 0) fun v => kk29 v h n)) (kk29 (.tp []) h n)) fun kk27 =>
 gdB v25 false (kk27 a0 h n) (kk27 (.tp []) h n)
noncomputable def e255 : FE := ⟨Tryz.f255, bd Tryz.f255, [0], [2], (.q .z (.g 0 [0, 3] [2] (.q (.q .z (.c (.q .z .z) .z)) (.q .z (.q .z (.q (.q .z (.c (.q .z .z) .z)) (.q .z .z))))) (.q .z (.q (.q .z (.c (.q .z .z) .z)) (.q .z .z)))))⟩
theorem q255 (fu : Nat) (cf : CF) (a0 : V) (h : H) (n : Id) (k : KV) : evF fu cf e255 [a0] h n k = s255 fu cf a0 h n k := by kernel_rfl
theorem p255 : PfOk Tryz.prog tbx mtab 255 (w1 (s255 fuX)) := pfo e255 Tryz.func255 (by kernel_rfl) (w1_ok (q255 fuX))
noncomputable def s256 (fu : Nat) (cf : CF) (a0 a1 : V) (h : H) (n : Id) (k : KV) : R :=
 evLen tbx 114 a0 fun v1 =>
 jp (fun (s2 : VT [5]) h n =>
 pc s2 fun v4 s5 =>
 k v4 h n) fun kk3 =>
 lpC [0, 1, 5, 8, 9, 10] (fun lo7 s6 h n =>
 pc s6 fun v8 s9 =>
 pc s9 fun v10 s11 =>
 pc s11 fun v12 s13 =>
 pc s13 fun v14 s15 =>
 pc s15 fun v16 s17 =>
 pc s17 fun v18 s19 =>
 evBin2 tbx .lss 3 v18 v16 fun v20 =>
 brB v20 (
 jp (fun (s21 : VT [0, 1, 5, 8, 9, 10]) h n =>
 pc s21 fun v23 s24 =>
 pc s24 fun v25 s26 =>
 pc s26 fun v27 s28 =>
 pc s28 fun v29 s30 =>
 pc s30 fun v31 s32 =>
 pc s32 fun v33 s34 =>
 evBin2 tbx .add 3 v33 (.i .i64 1) fun v35 =>
 lo7 (v23, v25, v27, v29, v31, v35, ()) h n) fun kk22 =>
 evIa tbx 114 v14 v18 fun v36 =>
 evLoad tbx 162 v36 h fun v37 =>
 evAlloc tbx 162 h n fun v38 h n =>
 evStore tbx 162 v38 v37 h n fun _ h n =>
 evFa tbx 162 0 v38 fun v39 =>
 evLoad tbx 3 v39 h fun v40 =>
 evBin2 tbx .eql 3 v40 v10 fun v41 =>
 jp (fun (v42 : V) h n =>
 jp (fun (v44 : V) h n =>
 evPick v41 v44 (.b false) fun v46 =>
 jp (fun (v47 : V) h n =>
 jp (fun (v49 : V) h n =>
 jp (fun (v51 : V) h n =>
 jp (fun (v53 : V) h n =>
 evPick v46 v53 (.b false) fun v55 =>
 brB v55 (
 evBuildSl tbx 149 1 [(0, v18)] h n fun v56 h n =>
 evApp tbx 149 149 v12 v56 h n fun v57 h n =>
 kk22 (v8, v10, v57, v14, v16, v18, ()) h n) (
 kk22 (v8, v10, v12, v14, v16, v18, ()) h n)) fun kk54 =>
 gdB v46 true ((evBin2 tbx .lss 3 v47 v51 fun v => kk54 v h n)) (kk54 (.tp []) h n)) fun kk52 =>
 gdB v46 true ((evLen tbx 114 v49 fun v => kk52 v h n)) (kk52 (.tp []) h n)) fun kk50 =>
 gdB v46 true (kk50 v8 h n) (kk50 (.tp []) h n)) fun kk48 =>
 gdB v46 true (kk48 v10 h n) (kk48 (.tp []) h n)) fun kk45 =>
 gdB v41 true ((evBin2 tbx .geq 3 v42 (.i .i64 0) fun v => kk45 v h n)) (kk45 (.tp []) h n)) fun kk43 =>
 gdB v41 true (kk43 v10 h n) (kk43 (.tp []) h n)) (
 kk3 (v12, ()) h n)) fu (a0, a1, .ns, a0, v1, (.i .i64 0), ()) h n
noncomputable def e256 : FE := ⟨Tryz.f256, bd Tryz.f256, [0, 1], [4], (.q .z (.q .z (.q (.q .z (.b [5] (.l [0, 1, 5, 8, 9, 10] (.q .z (.q (.c .z .z) (.q (.b [0, 1, 5, 8, 9, 10] (.q .z (.q .z (.c .z .z)))) .z)))))) (.q .z .z))))⟩
theorem q256 (fu : Nat) (cf : CF) (a0 a1 : V) (h : H) (n : Id) (k : KV) : evF fu cf e256 [a0, a1] h n k = s256 fu cf a0 a1 h n k := by kernel_rfl
theorem p256 : PfOk Tryz.prog tbx mtab 256 (w2 (s256 fuX)) := pfo e256 Tryz.func256 (by kernel_rfl) (w2_ok (q256 fuX))
noncomputable def s257 (fu : Nat) (cf : CF) (a0 a1 : V) (h : H) (n : Id) (k : KV) : R :=
 cf 293 [a0] h n fun v1 h n =>
 evNc' a0 fun v2 =>
 evFa tbx 314 1 v2 fun v3 =>
 evLoad tbx 73 v3 h fun v4 =>
 evApp tbx 73 9 v4 a1 h n fun v5 h n =>
 evNc' a0 fun v6 =>
 evFa tbx 314 1 v6 fun v7 =>
 evStore tbx 73 v7 v5 h n fun _ h n =>
 evLen tbx 9 a1 fun v8 =>
 k (.tp [v8, .j]) h n
noncomputable def e257 : FE := ⟨Tryz.f257, bd Tryz.f257, [0, 1], [4, 5], (.q .z (.q .z (.q .z (.q .z .z))))⟩
theorem q257 (fu : Nat) (cf : CF) (a0 a1 : V) (h : H) (n : Id) (k : KV) : evF fu cf e257 [a0, a1] h n k = s257 fu cf a0 a1 h n k := by kernel_rfl
theorem p257 : PfOk Tryz.prog tbx mtab 257 (w2 (s257 fuX)) := pfo e257 Tryz.func257 (by kernel_rfl) (w2_ok (q257 fuX))
noncomputable def s258 (fu : Nat) (cf : CF) (a0 : V) (h : H) (n : Id) (k : KV) : R :=
 evNc' a0 fun v1 =>
 evFa tbx 314 1 v1 fun v2 =>
 evLoad tbx 73 v2 h fun v3 =>
 evSld v3 fun v4 =>
 evNc' a0 fun v5 =>
 evFa tbx 314 1 v5 fun v6 =>
 evLoad tbx 73 v6 h fun v7 =>
 evLen tbx 73 v7 fun v8 =>
 evLoad tbx 73 v2 h fun w11 => cond (eqV 6 w11 v3) (
 evLoad tbx 73 v6 h fun w10 => cond (eqV 6 w10 v7) (
 evUst mtab 352 v4 v8 h n fun v9 h n =>
 k v9 h n) none) none
noncomputable def e258 : FE := ⟨Tryz.f258, bd Tryz.f258, [0], [2], (.q .z (.q .z .z))⟩
theorem q258 (fu : Nat) (cf : CF) (a0 : V) (h : H) (n : Id) (k : KV) : evF fu cf e258 [a0] h n k = s258 fu cf a0 h n k := by kernel_rfl
theorem p258 : PfOk Tryz.prog tbx mtab 258 (w1 (s258 fuX)) := pfo e258 Tryz.func258 (by kernel_rfl) (w1_ok (q258 fuX))
noncomputable def s259 (fu : Nat) (cf : CF) (a0 a1 : V) (h : H) (n : Id) (k : KV) : R :=
 evLen tbx 29 a0 fun v1 =>
 evConv2 tbx mtab 3 22 v1 h n fun v2 h n =>
 cf 54 [v2] h n fun v3 h n =>
 cf 294 [a0, (.i .i64 0), v1, v3, a1] h n fun v4 h n =>
 k (.tp []) h n
noncomputable def e259 : FE := ⟨Tryz.f259, bd Tryz.f259, [0, 1], [], (.q .z .z)⟩
theorem q259 (fu : Nat) (cf : CF) (a0 a1 : V) (h : H) (n : Id) (k : KV) : evF fu cf e259 [a0, a1] h n k = s259 fu cf a0 a1 h n k := by kernel_rfl
theorem p259 : PfOk Tryz.prog tbx mtab 259 (w2 (s259 fuX)) := pfo e259 Tryz.func259 (by kernel_rfl) (w2_ok (q259 fuX))
noncomputable def s260 (fu : Nat) (cf : CF) (a0 a1 : V) (h : H) (n : Id) (k : KV) : R :=
 evBox a0 h n fun v1 h n =>
 evBox a1 h n fun v2 h n =>
 evFa tbx 57 0 v1 fun v3 =>
 evLoad tbx 9 v3 h fun v4 =>
 evFa tbx 57 0 v2 fun v5 =>
 evLoad tbx 9 v5 h fun v6 =>
 cf 56 [v4, v6] h n fun v7 h n =>
 k v7 h n
noncomputable def e260 : FE := ⟨Tryz.f260, bd Tryz.f260, [0, 1], [4], (.q .z (.q .z .z))⟩
theorem q260 (fu : Nat) (cf : CF) (a0 a1 : V) (h : H) (n : Id) (k : KV) : evF fu cf e260 [a0, a1] h n k = s260 fu cf a0 a1 h n k := by kernel_rfl
theorem p260 : PfOk Tryz.prog tbx mtab 260 (w2 (s260 fuX)) := pfo e260 Tryz.func260 (by kernel_rfl) (w2_ok (q260 fuX))
noncomputable def s261 (fu : Nat) (cf : CF) (a0 : V) (h : H) (n : Id) (k : KV) : R :=
 evBox a0 h n fun v1 h n =>
 evLoad tbx 51 v1 h fun v2 =>
 cf 46 [v2] h n fun v3 h n =>
 jp (fun (s4 : VT [3]) h n =>
 pc s4 fun v6 s7 =>
 k v6 h n) fun kk5 =>
 evFa tbx 51 5 v1 fun v8 =>
 evLoad tbx 9 v8 h fun v9 =>
 evBin2 tbx .eql 9 v9 (.s 6 115918758703732) fun v10 =>
 brB v10 (
 evBin2 tbx .add 9 v3 (.s 7 16441467407921780) fun v11 =>
 kk5 (v11, ()) h n) (
 kk5 (v3, ()) h n)
noncomputable def e261 : FE := ⟨Tryz.f261, bd Tryz.f261, [0], [2], (.q .z (.q .z (.s [3] (.q .z (.c .z .z)) (.q .z .z))))⟩
theorem q261 (fu : Nat) (cf : CF) (a0 : V) (h : H) (n : Id) (k : KV) : evF fu cf e261 [a0] h n k = s261 fu cf a0 h n k := by kernel_rfl
theorem p261 : PfOk Tryz.prog tbx mtab 261 (w1 (s261 fuX)) := pfo e261 Tryz.func261 (by kernel_rfl) (w1_ok (q261 fuX))
noncomputable def s262 (fu : Nat) (cf : CF) (a0 a1 : V) (h : H) (n : Id) (k : KV) : R :=
 evLen tbx 29 a0 fun v1 =>
 jp (fun (s2 : VT []) h n =>
 k (.i .i64 (-1)) h n) fun kk3 =>
 lpC [0, 1, 7, 8] (fun lo5 s4 h n =>
 pc s4 fun v6 s7 =>
 pc s7 fun v8 s9 =>
 pc s9 fun v10 s11 =>
 pc s11 fun v12 s13 =>
 evBin2 tbx .lss 3 v12 v10 fun v14 =>
 brB v14 (
 jp (fun (s15 : VT [0, 1, 7, 8]) h n =>
 pc s15 fun v17 s18 =>
 pc s18 fun v19 s20 =>
 pc s20 fun v21 s22 =>
 pc s22 fun v23 s24 =>
 evBin2 tbx .add 3 v23 (.i .i64 1) fun v25 =>
 lo5 (v17, v19, v21, v25, ()) h n) fun kk16 =>
 evIa tbx 29 v6 v12 fun v26 =>
 evLoad tbx 57 v26 h fun v27 =>
 evCall cf v8 [v27] h n fun v28 h n =>
 brB v28 (
 k v12 h n) (
 kk16 (v6, v8, v10, v12, ()) h n)) (
 kk3 (()) h n)) fu (a0, a1, v1, (.i .i64 0), ()) h n
noncomputable def e262 : FE := ⟨Tryz.f262, bd Tryz.f262, [0, 1], [4], (.q .z (.q (.q .z (.b [] (.l [0, 1, 7, 8] (.q .z (.q (.c .z .z) (.q (.b [0, 1, 7, 8] (.q .z (.q .z (.c (.q .z .z) .z)))) .z)))))) (.q .z .z)))⟩
theorem q262 (fu : Nat) (cf : CF) (a0 a1 : V) (h : H) (n : Id) (k : KV) : evF fu cf e262 [a0, a1] h n k = s262 fu cf a0 a1 h n k := by kernel_rfl
theorem p262 : PfOk Tryz.prog tbx mtab 262 (w2 (s262 fuX)) := pfo e262 Tryz.func262 (by kernel_rfl) (w2_ok (q262 fuX))
noncomputable def s263 (fu : Nat) (cf : CF) (a0 : V) (h : H) (n : Id) (k : KV) : R :=
 jp (fun (s3 : VT [2, 3]) h n =>
 pc s3 fun v6 s7 =>
 pc s7 fun v8 s9 =>
 k (.tp [v6, v8]) h n) fun kk1 =>
 jp (lpC [0, 4] (fun lo5 s4 h n =>
 pc s4 fun v10 s11 =>
 pc s11 fun v12 s13 =>
 cf 225 [v10, (.s 2 9339)] h n fun v14 h n =>
 evExt 0 v14 fun v15 =>
 evExt 1 v14 fun v16 =>
 evExt 2 v14 fun v17 =>
 jp (fun (s18 : VT [4, 6, 7]) h n =>
 pc s18 fun v20 s21 =>
 pc s21 fun v22 s23 =>
 pc s23 fun v24 s25 =>
 evUn .not v24 fun v26 =>
 brB v26 (
 k (.tp [v20, (.i .i64 0)]) h n) (
 cf 225 [v22, (.s 1 125)] h n fun v27 h n =>
 evExt 0 v27 fun v28 =>
 evExt 1 v27 fun v29 =>
 evExt 2 v27 fun v30 =>
 evUn .not v30 fun v31 =>
 jp (fun (v32 : V) h n =>
 jp (fun (v34 : V) h n =>
 evPick v31 (.b true) v34 fun v36 =>
 jp (fun (v37 : V) h n =>
 jp (fun (v39 : V) h n =>
 evPick v36 (.b true) v39 fun v41 =>
 brB v41 (
 k (.tp [.ns, (.i .i64 17)]) h n) (
 evBuild tbx 334 [(0, (.b true)), (1, v28)] fun v42 =>
 evBuildSl tbx 323 1 [(0, v42)] h n fun v43 h n =>
 evApp tbx 323 323 v20 v43 h n fun v44 h n =>
 lo5 (v29, v44, ()) h n)) fun kk40 =>
 gdB v36 false ((cf 295 [v37, (.s 2 9339)] h n kk40)) (kk40 (.tp []) h n)) fun kk38 =>
 gdB v36 false (kk38 v28 h n) (kk38 (.tp []) h n)) fun kk35 =>
 gdB v31 false ((evBin2 tbx .eql 9 v32 (.s 0 0) fun v => kk35 v h n)) (kk35 (.tp []) h n)) fun kk33 =>
 gdB v31 false (kk33 v28 h n) (kk33 (.tp []) h n))) fun kk19 =>
 evBin2 tbx .neq 9 v15 (.s 0 0) fun v45 =>
 brB v45 (
 evBuild tbx 334 [(1, v15)] fun v46 =>
 evBuildSl tbx 323 1 [(0, v46)] h n fun v47 h n =>
 evApp tbx 323 323 v12 v47 h n fun v48 h n =>
 kk19 (v48, v16, v17, ()) h n) (
 kk19 (v12, v16, v17, ()) h n)) fu) fun lo2 =>
 cf 225 [a0, (.s 2 9339)] h n fun v49 h n =>
 evExt 0 v49 fun v50 =>
 evExt 1 v49 fun v51 =>
 evExt 2 v49 fun v52 =>
 jp (fun (s53 : VT [4, 6, 7]) h n =>
 pc s53 fun v55 s56 =>
 pc s56 fun v57 s58 =>
 pc s58 fun v59 s60 =>
 evUn .not v59 fun v61 =>
 brB v61 (
 k (.tp [v55, (.i .i64 0)]) h n) (
 cf 225 [v57, (.s 1 125)] h n fun v62 h n =>
 evExt 0 v62 fun v63 =>
 evExt 1 v62 fun v64 =>
 evExt 2 v62 fun v65 =>
 evUn .not v65 fun v66 =>
 jp (fun (v67 : V) h n =>
 jp (fun (v69 : V) h n =>
 evPick v66 (.b true) v69 fun v71 =>
 jp (fun (v72 : V) h n =>
 jp (fun (v74 : V) h n =>
 evPick v71 (.b true) v74 fun v76 =>
 brB v76 (
 k (.tp [.ns, (.i .i64 17)]) h n) (
 evBuild tbx 334 [(0, (.b true)), (1, v63)] fun v77 =>
 evBuildSl tbx 323 1 [(0, v77)] h n fun v78 h n =>
 evApp tbx 323 323 v55 v78 h n fun v79 h n =>
 lo2 (v64, v79, ()) h n)) fun kk75 =>
 gdB v71 false ((cf 295 [v72, (.s 2 9339)] h n kk75)) (kk75 (.tp []) h n)) fun kk73 =>
 gdB v71 false (kk73 v63 h n) (kk73 (.tp []) h n)) fun kk70 =>
 gdB v66 false ((evBin2 tbx .eql 9 v67 (.s 0 0) fun v => kk70 v h n)) (kk70 (.tp []) h n)) fun kk68 =>
 gdB v66 false (kk68 v63 h n) (kk68 (.tp []) h n))) fun kk54 =>
 evBin2 tbx .neq 9 v50 (.s 0 0) fun v80 =>
 brB v80 (
 evBuild tbx 334 [(1, v50)] fun v81 =>
 evBuildSl tbx 323 1 [(0, v81)] h n fun v82 h n =>
 evApp tbx 323 323 .ns v82 h n fun v83 h n =>
 kk54 (v83, v51, v52, ()) h n) (
 kk54 (.ns, v51, v52, ()) h n)
noncomputable def e263 : FE := ⟨Tryz.f263, bd Tryz.f263, [0], [2, 3], (.q .z (.g 0 [0, 4] [2, 3] (.q .z (.q .z (.q .z (.s [4, 6, 7] (.q .z (.c .z .z)) (.q (.q .z (.c (.q .z .z) .z)) (.q .z (.q (.q .z (.c (.q .z .z) .z)) (.q .z (.q .z .z))))))))) (.q .z (.q .z (.s [4, 6, 7] (.q .z (.c .z .z)) (.q (.q .z (.c (.q .z .z) .z)) (.q .z (.q (.q .z (.c (.q .z .z) .z)) (.q .z (.q .z .z))))))))))⟩
theorem q263 (fu : Nat) (cf : CF) (a0 : V) (h : H) (n : Id) (k : KV) : evF fu cf e263 [a0] h n k = s263 fu cf a0 h n k := by kernel_rfl
theorem p263 : PfOk Tryz.prog tbx mtab 263 (w1 (s263 fuX)) := pfo e263 Tryz.func263 (by kernel_rfl) (w1_ok (q263 fuX))
noncomputable def s264 (fu : Nat) (cf : CF) (a0 : V) (h : H) (n : Id) (k : KV) : R :=
 cf 296 [a0, (.s 0 0)] h n fun v1 h n =>
 cf 210 [v1] h n fun v2 h n =>
 jp (fun (s3 : VT [4]) h n =>
 pc s3 fun v5 s6 =>
 k (.tp [v5, (.i .i64 0)]) h n) fun kk4 =>
 evLen tbx 9 v2 fun v7 =>
 evBin2 tbx .gtr 3 v7 (.i .i64 500) fun v8 =>
 brB v8 (
 k (.tp [(.s 0 0), (.i .i64 3)]) h n) (
 cf 297 [v2] h n fun v9 h n =>
 brB v9 (
 k (.tp [(.s 0 0), (.i .i64 17)]) h n) (
 kk4 (v2, ()) h n))
noncomputable def e264 : FE := ⟨Tryz.f264, bd Tryz.f264, [0], [2, 3], (.q .z (.q .z (.q (.b [4] (.q .z (.c (.q .z .z) (.q .z (.c (.q .z .z) .z))))) (.q .z .z))))⟩
theorem q264 (fu : Nat) (cf : CF) (a0 : V) (h : H) (n : Id) (k : KV) : evF fu cf e264 [a0] h n k = s264 fu cf a0 h n k := by kernel_rfl
theorem p264 : PfOk Tryz.prog tbx mtab 264 (w1 (s264 fuX)) := pfo e264 Tryz.func264 (by kernel_rfl) (w1_ok (q264 fuX))
noncomputable def s265 (fu : Nat) (cf : CF) (a0 a1 : V) (h : H) (n : Id) (k : KV) : R :=
 cf 298 [a0, a1] h n fun v1 h n =>
 evBin2 tbx .geq 3 v1 (.i .i64 0) fun v2 =>
 k v2 h n
noncomputable def e265 : FE := ⟨Tryz.f265, bd Tryz.f265, [0, 1], [4], (.q .z (.q .z .z))⟩
theorem q265 (fu : Nat) (cf : CF) (a0 a1 : V) (h : H) (n : Id) (k : KV) : evF fu cf e265 [a0, a1] h n k = s265 fu cf a0 a1 h n k := by kernel_rfl
theorem p265 : PfOk Tryz.prog tbx mtab 265 (w2 (s265 fuX)) := pfo e265 Tryz.func265 (by kernel_rfl) (w2_ok (q265 fuX))
noncomputable def s266 (fu : Nat) (cf : CF) (a0 a1 : V) (h : H) (n : Id) (k : KV) : R :=
 evBox a0 h n fun v1 h n =>
 evFa tbx 327 1 v1 fun v2 =>
 evLoad tbx 4 v2 h fun v3 =>
 jp (fun (v4 : V) h n =>
 jp (fun (v6 : V) h n =>
 jp (fun (v8 : V) h n =>
 jp (fun (v10 : V) h n =>
 jp (fun (v12 : V) h n =>
 evPick v3 v12 (.b false) fun v14 =>
 k v14 h n) fun kk13 =>
 gdB v3 true ((evBin2 tbx .eql 9 v6 v10 fun v => kk13 v h n)) (kk13 (.tp []) h n)) fun kk11 =>
 gdB v3 true ((evLoad tbx 9 v8 h fun v => kk11 v h n)) (kk11 (.tp []) h n)) fun kk9 =>
 gdB v3 true ((evFa tbx 334 1 a1 fun v => kk9 v h n)) (kk9 (.tp []) h n)) fun kk7 =>
 gdB v3 true ((evLoad tbx 9 v4 h fun v => kk7 v h n)) (kk7 (.tp []) h n)) fun kk5 =>
 gdB v3 true ((evFa tbx 327 0 v1 fun v => kk5 v h n)) (kk5 (.tp []) h n)
noncomputable def e266 : FE := ⟨Tryz.f266, bd Tryz.f266, [0, 1], [3], (.q .z (.q .z .z))⟩
theorem q266 (fu : Nat) (cf : CF) (a0 a1 : V) (h : H) (n : Id) (k : KV) : evF fu cf e266 [a0, a1] h n k = s266 fu cf a0 a1 h n k := by kernel_rfl
theorem p266 : PfOk Tryz.prog tbx mtab 266 (w2 (s266 fuX)) := pfo e266 Tryz.func266 (by kernel_rfl) (w2_ok (q266 fuX))
noncomputable def s267 (fu : Nat) (cf : CF) (a0 a1 : V) (h : H) (n : Id) (k : KV) : R :=
 evBox a0 h n fun v1 h n =>
 evAlloc tbx 51 h n fun v2 h n =>
 evFa tbx 51 3 v1 fun v3 =>
 evLoad tbx 9 v3 h fun v4 =>
 evBuildSl tbx 71 2 [(0, v4), (1, (.s 3 6971762))] h n fun v5 h n =>
 cf 42 [v5] h n fun v6 h n =>
 evFa tbx 51 3 v1 fun v7 =>
 evStore tbx 9 v7 v6 h n fun _ h n =>
 evFa tbx 51 7 v1 fun v8 =>
 evLoad tbx 49 v8 h fun v9 =>
 cf 113 [v9] h n fun v10 h n =>
 evFa tbx 51 7 v1 fun v11 =>
 evStore tbx 49 v11 v10 h n fun _ h n =>
 jp (fun (s12 : VT [1, 2, 4]) h n =>
 pc s12 fun v14 s15 =>
 pc s15 fun v16 s17 =>
 pc s17 fun v18 s19 =>
 evLoad tbx 51 v16 h fun v20 =>
 cf 302 [v20, v14] h n fun v21 h n =>
 evBin2 tbx .neq 33 v21 (.i .i64 0) fun v22 =>
 brB v22 (
 evBuild tbx 51 [] fun v23 =>
 evStore tbx 51 v18 v23 h n fun _ h n =>
 evLoad tbx 51 v18 h fun v24 =>
 k (.tp [v24, v21]) h n) (
 evLoad tbx 51 v16 h fun v25 =>
 evStore tbx 51 v18 v25 h n fun _ h n =>
 evLoad tbx 51 v18 h fun v26 =>
 k (.tp [v26, (.i .i64 0)]) h n)) fun kk13 =>
 evFa tbx 51 0 v1 fun v27 =>
 evLoad tbx 9 v27 h fun v28 =>
 cf 58 [v28] h n fun v29 h n =>
 evUn .not v29 fun v30 =>
 jp (fun (v31 : V) h n =>
 jp (fun (v33 : V) h n =>
 jp (fun (v35 : V) h n =>
 jp (fun (v37 : V) h n =>
 evPick v30 (.b true) v37 fun v39 =>
 jp (fun (v40 : V) h n =>
 jp (fun (v42 : V) h n =>
 jp (fun (v44 : V) h n =>
 jp (fun (v46 : V) h n =>
 evPick v39 (.b true) v46 fun v48 =>
 jp (fun (v49 : V) h n =>
 jp (fun (v51 : V) h n =>
 jp (fun (v53 : V) h n =>
 jp (fun (v55 : V) h n =>
 jp (fun (v57 : V) h n =>
 jp (fun (v59 : V) h n =>
 jp (fun (v61 : V) h n =>
 jp (fun (v63 : V) h n =>
 jp (fun (v65 : V) h n =>
 evPick v48 (.b true) v65 fun v67 =>
 brB v67 (
 evBuild tbx 51 [] fun v68 =>
 evStore tbx 51 v2 v68 h n fun _ h n =>
 evLoad tbx 51 v2 h fun v69 =>
 k (.tp [v69, (.i .i64 10)]) h n) (
 evLoad tbx 51 v1 h fun v70 =>
 cf 299 [v70, a1] h n fun v71 h n =>
 evUn .not v71 fun v72 =>
 brB v72 (
 evBuild tbx 51 [] fun v73 =>
 evStore tbx 51 v2 v73 h n fun _ h n =>
 evLoad tbx 51 v2 h fun v74 =>
 k (.tp [v74, (.i .i64 19)]) h n) (
 evFa tbx 51 7 v1 fun v75 =>
 evLoad tbx 49 v75 h fun v76 =>
 cf 180 [v76, (.fn 300 [])] h n fun v77 h n =>
 brB v77 (
 evBuild tbx 51 [] fun v78 =>
 evStore tbx 51 v2 v78 h n fun _ h n =>
 evLoad tbx 51 v2 h fun v79 =>
 k (.tp [v79, (.i .i64 10)]) h n) (
 kk13 (a1, v1, v2, ()) h n)))) fun kk66 =>
 gdB v48 false ((evPick v55 v63 (.b false) fun v => kk66 v h n)) (kk66 (.tp []) h n)) fun kk64 =>
 gdB v55 true ((evUn .not v61 fun v => kk64 v h n)) (kk64 (.tp []) h n)) fun kk62 =>
 gdB v55 true ((cf 58 [v59] h n kk62)) (kk62 (.tp []) h n)) fun kk60 =>
 gdB v55 true ((evLoad tbx 9 v57 h fun v => kk60 v h n)) (kk60 (.tp []) h n)) fun kk58 =>
 gdB v55 true ((evFa tbx 51 4 v1 fun v => kk58 v h n)) (kk58 (.tp []) h n)) fun kk56 =>
 gdB v48 false (kk56 v53 h n) (kk56 (.tp []) h n)) fun kk54 =>
 gdB v48 false ((evBin2 tbx .neq 9 v51 (.s 0 0) fun v => kk54 v h n)) (kk54 (.tp []) h n)) fun kk52 =>
 gdB v48 false ((evLoad tbx 9 v49 h fun v => kk52 v h n)) (kk52 (.tp []) h n)) fun kk50 =>
 gdB v48 false ((evFa tbx 51 4 v1 fun v => kk50 v h n)) (kk50 (.tp []) h n)) fun kk47 =>
 gdB v39 false ((evUn .not v44 fun v => kk47 v h n)) (kk47 (.tp []) h n)) fun kk45 =>
 gdB v39 false ((cf 58 [v42] h n kk45)) (kk45 (.tp []) h n)) fun kk43 =>
 gdB v39 false ((evLoad tbx 9 v40 h fun v => kk43 v h n)) (kk43 (.tp []) h n)) fun kk41 =>
 gdB v39 false ((evFa tbx 51 3 v1 fun v => kk41 v h n)) (kk41 (.tp []) h n)) fun kk38 =>
 gdB v30 false ((evUn .not v35 fun v => kk38 v h n)) (kk38 (.tp []) h n)) fun kk36 =>
 gdB v30 false ((cf 58 [v33] h n kk36)) (kk36 (.tp []) h n)) fun kk34 =>
 gdB v30 false ((evLoad tbx 9 v31 h fun v => kk34 v h n)) (kk34 (.tp []) h n)) fun kk32 =>
 gdB v30 false ((evFa tbx 51 1 v1 fun v => kk32 v h n)) (kk32 (.tp []) h n)
noncomputable def e267 : FE := ⟨Tryz.f267, bd Tryz.f267, [0, 1], [4, 5], (.q .z (.q .z (.q .z (.q (.b [1, 2, 4] (.q .z (.c (.q .z .z) (.q .z (.c (.q .z .z) (.q .z (.c (.q .z .z) .z))))))) (.q (.q .z (.q .z (.c (.q .z .z) .z))) (.q .z .z))))))⟩
theorem q267 (fu : Nat) (cf : CF) (a0 a1 : V) (h : H) (n : Id) (k : KV) : evF fu cf e267 [a0, a1] h n k = s267 fu cf a0 a1 h n k := by kernel_rfl
theorem p267 : PfOk Tryz.prog tbx mtab 267 (w2 (s267 fuX)) := pfo e267 Tryz.func267 (by kernel_rfl) (w2_ok (q267 fuX))
noncomputable def s268 (fu : Nat) (cf : CF) (a0 a1 : V) (h : H) (n : Id) (k : KV) : R :=
 jp (fun (s1 : VT [4]) h n =>
 pc s1 fun v3 s4 =>
 k v3 h n) fun kk2 =>
 evBin2 tbx .leq 21 (.i .i32 0) a1 fun v5 =>
 jp (fun (v6 : V) h n =>
 jp (fun (v8 : V) h n =>
 evPick v5 v8 (.b false) fun v10 =>
 brB v10 (
 evConv2 tbx mtab 21 5 a1 h n fun v11 h n =>
 cf 93 [a0, v11] h n fun v12 h n =>
 k v12 h n) (
 evBin2 tbx .eql 21 a1 (.i .i32 65533) fun v13 =>
 brB v13 (
 none) (
 cf 303 [a1] h n fun v14 h n =>
 evUn .not v14 fun v15 =>
 brB v15 (
 k (.i .i64 (-1)) h n) (
 jp (fun (s18 : VT [4]) h n =>
 pc s18 fun v21 s22 =>
 kk2 (v21, ()) h n) fun kk16 =>
 jp (lpC [0, 1, 7, 8, 9] (fun lo20 s19 h n =>
 pc s19 fun v23 s24 =>
 pc s24 fun v25 s26 =>
 pc s26 fun v27 s28 =>
 pc s28 fun v29 s30 =>
 pc s30 fun v31 s32 =>
 jp (fun (s33 : VT []) h n =>
 k (.i .i64 (-1)) h n) fun kk34 =>
 brB (.b true) (
 evBin2 tbx .sub 3 v31 v29 fun v35 =>
 evSlc tbx 9 v23 (some v35) none fun v36 =>
 evConv2 tbx mtab 21 9 v25 h n fun v37 h n =>
 cf 192 [v36, v37] h n fun v38 h n =>
 evBin2 tbx .geq 3 v38 (.i .i64 0) fun v39 =>
 brB v39 (
 evBin2 tbx .add 3 v31 v38 fun v40 =>
 evBin2 tbx .sub 3 v40 v29 fun v41 =>
 k v41 h n) (
 kk34 (()) h n)) (
 evIx tbx 9 v27 v29 fun v42 =>
 evBin2 tbx .sub 3 v29 (.i .i64 1) fun v43 =>
 evIx tbx 9 v27 v43 fun v44 =>
 jp (fun (s45 : VT []) h n =>
 kk34 (()) h n) fun kk46 =>
 lpC [0, 7, 8, 9, 14, 15] (fun lo48 s47 h n =>
 pc s47 fun v49 s50 =>
 pc s50 fun v51 s52 =>
 pc s52 fun v53 s54 =>
 pc s54 fun v55 s56 =>
 pc s56 fun v57 s58 =>
 pc s58 fun v59 s60 =>
 evLen tbx 9 v49 fun v61 =>
 evBin2 tbx .lss 3 v55 v61 fun v62 =>
 brB v62 (
 jp (fun (s63 : VT [0, 7, 8, 9, 14, 15]) h n =>
 pc s63 fun v65 s66 =>
 pc s66 fun v67 s68 =>
 pc s68 fun v69 s70 =>
 pc s70 fun v71 s72 =>
 pc s72 fun v73 s74 =>
 pc s74 fun v75 s76 =>
 evBin2 tbx .add 3 v71 (.i .i64 1) fun v77 =>
 lo48 (v65, v67, v69, v77, v73, v75, ()) h n) fun kk64 =>
 evIx tbx 9 v49 v55 fun v78 =>
 evBin2 tbx .eql 5 v78 v57 fun v79 =>
 jp (fun (v80 : V) h n =>
 jp (fun (v82 : V) h n =>
 jp (fun (v84 : V) h n =>
 jp (fun (v86 : V) h n =>
 jp (fun (v88 : V) h n =>
 jp (fun (v90 : V) h n =>
 evPick v79 v90 (.b false) fun v92 =>
 brB v92 (
 jp (fun (s93 : VT [8, 9]) h n =>
 pc s93 fun v95 s96 =>
 pc s96 fun v97 s98 =>
 evBin2 tbx .sub 3 v97 v95 fun v99 =>
 k v99 h n) fun kk94 =>
 lpC [0, 7, 8, 9, 14, 15, 16] (fun lo101 s100 h n =>
 pc s100 fun v102 s103 =>
 pc s103 fun v104 s105 =>
 pc s105 fun v106 s107 =>
 pc s107 fun v108 s109 =>
 pc s109 fun v110 s111 =>
 pc s111 fun v112 s113 =>
 pc s113 fun v114 s115 =>
 evLen tbx 9 v104 fun v116 =>
 evBin2 tbx .lss 3 v114 v116 fun v117 =>
 brB v117 (
 jp (fun (s118 : VT [0, 7, 8, 9, 14, 15, 16]) h n =>
 pc s118 fun v120 s121 =>
 pc s121 fun v122 s123 =>
 pc s123 fun v124 s125 =>
 pc s125 fun v126 s127 =>
 pc s127 fun v128 s129 =>
 pc s129 fun v130 s131 =>
 pc s131 fun v132 s133 =>
 evBin2 tbx .add 3 v132 (.i .i64 1) fun v134 =>
 lo101 (v120, v122, v124, v126, v128, v130, v134, ()) h n) fun kk119 =>
 evBin2 tbx .sub 3 v108 v114 fun v135 =>
 evIx tbx 9 v102 v135 fun v136 =>
 evBin2 tbx .sub 3 v106 v114 fun v137 =>
 evIx tbx 9 v104 v137 fun v138 =>
 evBin2 tbx .neq 5 v136 v138 fun v139 =>
 brB v139 (
 kk64 (v102, v104, v106, v108, v110, v112, ()) h n) (
 kk119 (v102, v104, v106, v108, v110, v112, v114, ()) h n)) (
 kk94 (v106, v108, ()) h n)) fu (v49, v51, v53, v55, v57, v59, (.i .i64 2), ()) h n) (
 kk64 (v49, v51, v53, v55, v57, v59, ()) h n)) fun kk91 =>
 gdB v79 true ((evBin2 tbx .eql 5 v86 v88 fun v => kk91 v h n)) (kk91 (.tp []) h n)) fun kk89 =>
 gdB v79 true (kk89 v59 h n) (kk89 (.tp []) h n)) fun kk87 =>
 gdB v79 true ((evIx tbx 9 v80 v84 fun v => kk87 v h n)) (kk87 (.tp []) h n)) fun kk85 =>
 gdB v79 true ((evBin2 tbx .sub 3 v82 (.i .i64 1) fun v => kk85 v h n)) (kk85 (.tp []) h n)) fun kk83 =>
 gdB v79 true (kk83 v55 h n) (kk83 (.tp []) h n)) fun kk81 =>
 gdB v79 true (kk81 v49 h n) (kk81 (.tp []) h n)) (
 kk46 (()) h n)) fu (v23, v27, v29, v31, v42, v44, ()) h n)) fu) fun lo17 =>
 evConv2 tbx mtab 21 9 a1 h n fun v140 h n =>
 evLen tbx 9 v140 fun v141 =>
 evBin2 tbx .sub 3 v141 (.i .i64 1) fun v142 =>
 jp (fun (s143 : VT []) h n =>
 k (.i .i64 (-1)) h n) fun kk144 =>
 lpC [0, 1, 7, 8, 9, 10] (fun lo146 s145 h n =>
 pc s145 fun v147 s148 =>
 pc s148 fun v149 s150 =>
 pc s150 fun v151 s152 =>
 pc s152 fun v153 s154 =>
 pc s154 fun v155 s156 =>
 pc s156 fun v157 s158 =>
 evLen tbx 9 v147 fun v159 =>
 evBin2 tbx .lss 3 v155 v159 fun v160 =>
 brB v160 (
 jp (fun (s161 : VT [0, 1, 7, 8, 9, 10]) h n =>
 pc s161 fun v163 s164 =>
 pc s164 fun v165 s166 =>
 pc s166 fun v167 s168 =>
 pc s168 fun v169 s170 =>
 pc s170 fun v171 s172 =>
 pc s172 fun v173 s174 =>
 lo146 (v163, v165, v167, v169, v171, v173, ()) h n) fun kk162 =>
 jp (fun (s177 : VT [0, 1, 7, 8, 9, 10]) h n =>
 pc s177 fun v180 s181 =>
 pc s181 fun v182 s183 =>
 pc s183 fun v184 s185 =>
 pc s185 fun v186 s187 =>
 pc s187 fun v188 s189 =>
 pc s189 fun v190 s191 =>
 kk162 (v180, v182, v184, v186, v188, v190, ()) h n) fun kk175 =>
 jp (lpC [0, 1, 7, 8, 9, 10] (fun lo179 s178 h n =>
 pc s178 fun v192 s193 =>
 pc s193 fun v194 s195 =>
 pc s195 fun v196 s197 =>
 pc s197 fun v198 s199 =>
 pc s199 fun v200 s201 =>
 pc s201 fun v202 s203 =>
 evBin2 tbx .add 3 v202 (.i .i64 1) fun v204 =>
 evBin2 tbx .add 3 v200 (.i .i64 1) fun v205 =>
 jp (fun (v206 : V) h n =>
 jp (fun (v208 : V) h n =>
 jp (fun (v210 : V) h n =>
 jp (fun (v212 : V) h n =>
 evPick (.b true) v212 (.b false) fun v214 =>
 jp (fun (v215 : V) h n =>
 jp (fun (v217 : V) h n =>
 jp (fun (v219 : V) h n =>
 jp (fun (v221 : V) h n =>
 evPick v214 v221 (.b false) fun v223 =>
 jp (fun (v224 : V) h n =>
 jp (fun (v226 : V) h n =>
 jp (fun (v228 : V) h n =>
 jp (fun (v230 : V) h n =>
 jp (fun (v232 : V) h n =>
 jp (fun (v234 : V) h n =>
 jp (fun (v236 : V) h n =>
 jp (fun (v238 : V) h n =>
 jp (fun (v240 : V) h n =>
 jp (fun (v242 : V) h n =>
 jp (fun (v244 : V) h n =>
 jp (fun (v246 : V) h n =>
 jp (fun (v248 : V) h n =>
 evPick v223 (.b true) v248 fun v250 =>
 brB v250 (
 none) (
 kk175 (v192, v194, v196, v198, v205, v204, ()) h n)) fun kk249 =>
 gdB v223 false ((evPick v238 v246 (.b false) fun v => kk249 v h n)) (kk249 (.tp []) h n)) fun kk247 =>
 gdB v238 true ((evBin2 tbx .lss 3 v240 v244 fun v => kk247 v h n)) (kk247 (.tp []) h n)) fun kk245 =>
 gdB v238 true ((evLen tbx 9 v242 fun v => kk245 v h n)) (kk245 (.tp []) h n)) fun kk243 =>
 gdB v238 true (kk243 v192 h n) (kk243 (.tp []) h n)) fun kk241 =>
 gdB v238 true (kk241 v205 h n) (kk241 (.tp []) h n)) fun kk239 =>
 gdB v223 false (kk239 v236 h n) (kk239 (.tp []) h n)) fun kk237 =>
 gdB v223 false ((evPick v224 v234 (.b false) fun v => kk237 v h n)) (kk237 (.tp []) h n)) fun kk235 =>
 gdB v224 true ((evBin2 tbx .geq 3 v226 v232 fun v => kk235 v h n)) (kk235 (.tp []) h n)) fun kk233 =>
 gdB v224 true ((evBin2 tbx .add 3 (.i .i64 4) v230 fun v => kk233 v h n)) (kk233 (.tp []) h n)) fun kk231 =>
 gdB v224 true ((evBin2 tbx .shr 3 v228 (.i .u64 4) fun v => kk231 v h n)) (kk231 (.tp []) h n)) fun kk229 =>
 gdB v224 true (kk229 v205 h n) (kk229 (.tp []) h n)) fun kk227 =>
 gdB v224 true (kk227 v204 h n) (kk227 (.tp []) h n)) fun kk225 =>
 gdB v223 false (kk225 (.b false) h n) (kk225 (.tp []) h n)) fun kk222 =>
 gdB v214 true ((evBin2 tbx .lss 3 v215 v219 fun v => kk222 v h n)) (kk222 (.tp []) h n)) fun kk220 =>
 gdB v214 true ((evLen tbx 9 v217 fun v => kk220 v h n)) (kk220 (.tp []) h n)) fun kk218 =>
 gdB v214 true (kk218 v192 h n) (kk218 (.tp []) h n)) fun kk216 =>
 gdB v214 true (kk216 v205 h n) (kk216 (.tp []) h n)) fun kk213 =>
 gdB (.b true) true ((evBin2 tbx .gtr 3 v206 v210 fun v => kk213 v h n)) (kk213 (.tp []) h n)) fun kk211 =>
 gdB (.b true) true ((cf 193 [v208] h n kk211)) (kk211 (.tp []) h n)) fun kk209 =>
 gdB (.b true) true (kk209 v205 h n) (kk209 (.tp []) h n)) fun kk207 =>
 gdB (.b true) true (kk207 v204 h n) (kk207 (.tp []) h n)) fu) fun lo176 =>
 jp (fun (s251 : VT [0, 1, 7, 8, 9, 10]) h n =>
 pc s251 fun v253 s254 =>
 pc s254 fun v255 s256 =>
 pc s256 fun v257 s258 =>
 pc s258 fun v259 s260 =>
 pc s260 fun v261 s262 =>
 pc s262 fun v263 s264 =>
 jp (fun (s265 : VT [8, 9]) h n =>
 pc s265 fun v267 s268 =>
 pc s268 fun v269 s270 =>
 evBin2 tbx .sub 3 v269 v267 fun v271 =>
 k v271 h n) fun kk266 =>
 lpC [0, 1, 7, 8, 9, 10, 12] (fun lo273 s272 h n =>
 pc s272 fun v274 s275 =>
 pc s275 fun v276 s277 =>
 pc s277 fun v278 s279 =>
 pc s279 fun v280 s281 =>
 pc s281 fun v282 s283 =>
 pc s283 fun v284 s285 =>
 pc s285 fun v286 s287 =>
 evLen tbx 9 v278 fun v288 =>
 evBin2 tbx .lss 3 v286 v288 fun v289 =>
 brB v289 (
 jp (fun (s290 : VT [0, 1, 7, 8, 9, 10, 12]) h n =>
 pc s290 fun v292 s293 =>
 pc s293 fun v294 s295 =>
 pc s295 fun v296 s297 =>
 pc s297 fun v298 s299 =>
 pc s299 fun v300 s301 =>
 pc s301 fun v302 s303 =>
 pc s303 fun v304 s305 =>
 evBin2 tbx .add 3 v304 (.i .i64 1) fun v306 =>
 lo273 (v292, v294, v296, v298, v300, v302, v306, ()) h n) fun kk291 =>
 evBin2 tbx .sub 3 v282 v286 fun v307 =>
 evIx tbx 9 v274 v307 fun v308 =>
 evBin2 tbx .sub 3 v280 v286 fun v309 =>
 evIx tbx 9 v278 v309 fun v310 =>
 evBin2 tbx .neq 5 v308 v310 fun v311 =>
 brB v311 (
 lo176 (v274, v276, v278, v280, v282, v284, ()) h n) (
 kk291 (v274, v276, v278, v280, v282, v284, v286, ()) h n)) (
 kk266 (v280, v282, ()) h n)) fu (v253, v255, v257, v259, v261, v263, (.i .i64 1), ()) h n) fun kk252 =>
 evIx tbx 9 v147 v155 fun v312 =>
 evIx tbx 9 v151 v153 fun v313 =>
 evBin2 tbx .neq 5 v312 v313 fun v314 =>
 brB v314 (
 evBin2 tbx .add 3 v155 (.i .i64 1) fun v315 =>
 evSlc tbx 9 v147 (some v315) none fun v316 =>
 evIx tbx 9 v151 v153 fun v317 =>
 cf 93 [v316, v317] h n fun v318 h n =>
 evBin2 tbx .lss 3 v318 (.i .i64 0) fun v319 =>
 brB v319 (
 k (.i .i64 (-1)) h n) (
 evBin2 tbx .add 3 v318 (.i .i64 1) fun v320 =>
 evBin2 tbx .add 3 v155 v320 fun v321 =>
 kk252 (v147, v149, v151, v153, v321, v157, ()) h n)) (
 kk252 (v147, v149, v151, v153, v155, v157, ()) h n)) (
 kk144 (()) h n)) fu (a0, a1, v140, v142, v142, (.i .i64 0), ()) h n)))) fun kk9 =>
 gdB v5 true ((evBin2 tbx .lss 21 v6 (.i .i32 128) fun v => kk9 v h n)) (kk9 (.tp []) h n)) fun kk7 =>
 gdB v5 true (kk7 a1 h n) (kk7 (.tp []) h n)
noncomputable def e268 : FE := ⟨Tryz.f268, bd Tryz.f268, [0, 1], [4], (.q .z (.b [4] (.q .z (.c (.q .z .z) (.q .z (.c (.q (.q .z (.b [] (.l [175] (.q .z (.q (.c .z .z) (.b [175] (.q .z (.q .z (.c (.q .z .z) .z))))))))) (.q .z .z)) (.q .z (.c (.q .z .z) (.g 1 [0, 1, 7, 8, 9] [4] (.q .z (.q .z (.q .z (.q .z (.q (.b [] (.l [0, 1, 7, 8, 9, 10] (.q (.q .z (.c .z .z)) (.b [0, 1, 7, 8, 9, 10] (.g 0 [0, 1, 7, 8, 9, 10] [0, 1, 7, 8, 9, 10] (.s [0, 1, 7, 8, 9, 10] (.q .z (.c (.q .z (.q (.q .z (.c (.q .z .z) .z)) .z)) .z)) (.q (.q .z (.b [8, 9] (.l [0, 1, 7, 8, 9, 10, 12] (.q (.q .z (.c .z .z)) (.q (.b [0, 1, 7, 8, 9, 10, 12] (.q .z (.c .z .z))) .z))))) (.q (.q .z .z) (.q .z (.q .z (.q .z (.q .z (.c .z .z)))))))) (.q .z (.q .z (.q .z (.q .z (.c .z .z)))))))))) (.q (.q .z .z) (.q .z (.s [] (.c (.q .z (.q .z (.c (.q .z .z) .z))) (.o (.q .z (.q .z (.q .z (.b [] (.l [0, 7, 8, 9, 14, 15] (.q (.q .z (.c .z .z)) (.q (.b [0, 7, 8, 9, 14, 15] (.q .z (.c (.q (.q .z (.b [8, 9] (.l [0, 7, 8, 9, 14, 15, 16] (.q (.q .z (.c .z .z)) (.q (.b [0, 7, 8, 9, 14, 15, 16] (.q .z (.c .z .z))) .z))))) (.q .z .z)) .z))) .z))))))))) (.q .z .z))))))))) (.q .z (.s [] (.c (.q .z (.q .z (.c (.q .z .z) .z))) (.o (.q .z (.q .z (.q .z (.b [] (.l [0, 7, 8, 9, 14, 15] (.q (.q .z (.c .z .z)) (.q (.b [0, 7, 8, 9, 14, 15] (.q .z (.c (.q (.q .z (.b [8, 9] (.l [0, 7, 8, 9, 14, 15, 16] (.q (.q .z (.c .z .z)) (.q (.b [0, 7, 8, 9, 14, 15, 16] (.q .z (.c .z .z))) .z))))) (.q .z .z)) .z))) .z))))))))) (.q .z .z))))))))))))⟩
theorem q268 (fu : Nat) (cf : CF) (a0 a1 : V) (h : H) (n : Id) (k : KV) : evF fu cf e268 [a0, a1] h n k = s268 fu cf a0 a1 h n k := by kernel_rfl
theorem p268 : PfOk Tryz.prog tbx mtab 268 (w2 (s268 fuX)) := pfo e268 Tryz.func268 (by kernel_rfl) (w2_ok (q268 fuX))
noncomputable def s269 (fu : Nat) (cf : CF) (a0 : V) (h : H) (n : Id) (k : KV) : R :=
 evBin2 tbx .gtr 3 a0 (.i .i64 8) fun v1 =>
 k v1 h n
noncomputable def e269 : FE := ⟨Tryz.f269, bd Tryz.f269, [0], [2], (.q .z (.q .z .z))⟩
theorem q269 (fu : Nat) (cf : CF) (a0 : V) (h : H) (n : Id) (k : KV) : evF fu cf e269 [a0] h n k = s269 fu cf a0 h n k := by kernel_rfl
theorem p269 : PfOk Tryz.prog tbx mtab 269 (w1 (s269 fuX)) := pfo e269 Tryz.func269 (by kernel_rfl) (w1_ok (q269 fuX))
noncomputable def s270 (fu : Nat) (cf : CF) (a0 a1 : V) (h : H) (n : Id) (k : KV) : R :=
 evNc' a0 fun v1 =>
 evIa tbx 293 v1 a1 fun v2 =>
 evLoad tbx 4 v2 h fun v3 =>
 k v3 h n
noncomputable def e270 : FE := ⟨Tryz.f270, bd Tryz.f270, [0, 1], [4], (.q .z (.q .z .z))⟩
theorem q270 (fu : Nat) (cf : CF) (a0 a1 : V) (h : H) (n : Id) (k : KV) : evF fu cf e270 [a0, a1] h n k = s270 fu cf a0 a1 h n k := by kernel_rfl
theorem p270 : PfOk Tryz.prog tbx mtab 270 (w2 (s270 fuX)) := pfo e270 Tryz.func270 (by kernel_rfl) (w2_ok (q270 fuX))
noncomputable def s271 (fu : Nat) (cf : CF) (a0 a1 : V) (h : H) (n : Id) (k : KV) : R :=
 cf 138 [a0, a1] h n fun v1 h n =>
 evBin2 tbx .geq 3 v1 (.i .i64 0) fun v2 =>
 brB v2 (
 evSlc tbx 9 a0 none (some v1) fun v3 =>
 evLen tbx 9 a1 fun v4 =>
 evBin2 tbx .add 3 v1 v4 fun v5 =>
 evSlc tbx 9 a0 (some v5) none fun v6 =>
 k (.tp [v3, v6, (.b true)]) h n) (
 k (.tp [a0, (.s 0 0), (.b false)]) h n)
noncomputable def e271 : FE := ⟨Tryz.f271, bd Tryz.f271, [0, 1], [4, 5, 6], (.q .z (.q (.q .z (.q .z (.c (.q .z .z) .z))) (.q .z .z)))⟩
theorem q271 (fu : Nat) (cf : CF) (a0 a1 : V) (h : H) (n : Id) (k : KV) : evF fu cf e271 [a0, a1] h n k = s271 fu cf a0 a1 h n k := by kernel_rfl
theorem p271 : PfOk Tryz.prog tbx mtab 271 (w2 (s271 fuX)) := pfo e271 Tryz.func271 (by kernel_rfl) (w2_ok (q271 fuX))
noncomputable def s272 (fu : Nat) (cf : CF) (a0 a1 : V) (h : H) (n : Id) (k : KV) : R :=
 jp (fun (s1 : VT [0]) h n =>
 pc s1 fun v3 s4 =>
 k v3 h n) fun kk2 =>
 lpC [0, 1] (fun lo6 s5 h n =>
 pc s5 fun v7 s8 =>
 pc s8 fun v9 s10 =>
 evLen tbx 9 v7 fun v11 =>
 evBin2 tbx .gtr 3 v11 (.i .i64 0) fun v12 =>
 jp (fun (v13 : V) h n =>
 jp (fun (v15 : V) h n =>
 jp (fun (v17 : V) h n =>
 jp (fun (v19 : V) h n =>
 jp (fun (v21 : V) h n =>
 jp (fun (v23 : V) h n =>
 jp (fun (v25 : V) h n =>
 evPick v12 v25 (.b false) fun v27 =>
 brB v27 (
 jp (fun (s28 : VT [0, 1]) h n =>
 pc s28 fun v30 s31 =>
 pc s31 fun v32 s33 =>
 lo6 (v30, v32, ()) h n) fun kk29 =>
 evLen tbx 9 v7 fun v34 =>
 evBin2 tbx .sub 3 v34 (.i .i64 1) fun v35 =>
 evSlc tbx 9 v7 none (some v35) fun v36 =>
 kk29 (v36, v9, ()) h n) (
 kk2 (v7, ()) h n)) fun kk26 =>
 gdB v12 true ((evBin2 tbx .eql 5 v21 v23 fun v => kk26 v h n)) (kk26 (.tp []) h n)) fun kk24 =>
 gdB v12 true (kk24 v9 h n) (kk24 (.tp []) h n)) fun kk22 =>
 gdB v12 true ((evIx tbx 9 v13 v19 fun v => kk22 v h n)) (kk22 (.tp []) h n)) fun kk20 =>
 gdB v12 true ((evBin2 tbx .sub 3 v17 (.i .i64 1) fun v => kk20 v h n)) (kk20 (.tp []) h n)) fun kk18 =>
 gdB v12 true ((evLen tbx 9 v15 fun v => kk18 v h n)) (kk18 (.tp []) h n)) fun kk16 =>
 gdB v12 true (kk16 v7 h n) (kk16 (.tp []) h n)) fun kk14 =>
 gdB v12 true (kk14 v7 h n) (kk14 (.tp []) h n)) fu (a0, a1, ()) h n
noncomputable def e272 : FE := ⟨Tryz.f272, bd Tryz.f272, [0, 1], [4], (.q .z (.q (.b [0] (.l [0, 1] (.q (.q .z (.c .z .z)) (.b [0, 1] .z)))) (.q .z .z)))⟩
theorem q272 (fu : Nat) (cf : CF) (a0 a1 : V) (h : H) (n : Id) (k : KV) : evF fu cf e272 [a0, a1] h n k = s272 fu cf a0 a1 h n k := by kernel_rfl
theorem p272 : PfOk Tryz.prog tbx mtab 272 (w2 (s272 fuX)) := pfo e272 Tryz.func272 (by kernel_rfl) (w2_ok (q272 fuX))
noncomputable def s275 (fu : Nat) (cf : CF) (a0 a1 : V) (h : H) (n : Id) (k : KV) : R :=
 cf 59 [a0] h n fun v1 h n =>
 jp (fun (v2 : V) h n =>
 jp (fun (v4 : V) h n =>
 jp (fun (v6 : V) h n =>
 jp (fun (v8 : V) h n =>
 jp (fun (v10 : V) h n =>
 jp (fun (v12 : V) h n =>
 evPick v1 (.b true) v12 fun v14 =>
 k v14 h n) fun kk13 =>
 gdB v1 false ((evPick v6 v10 (.b false) fun v => kk13 v h n)) (kk13 (.tp []) h n)) fun kk11 =>
 gdB v6 true ((evUn .not v8 fun v => kk11 v h n)) (kk11 (.tp []) h n)) fun kk9 =>
 gdB v6 true (kk9 a1 h n) (kk9 (.tp []) h n)) fun kk7 =>
 gdB v1 false (kk7 v4 h n) (kk7 (.tp []) h n)) fun kk5 =>
 gdB v1 false ((evBin2 tbx .eql 9 v2 (.s 0 0) fun v => kk5 v h n)) (kk5 (.tp []) h n)) fun kk3 =>
 gdB v1 false (kk3 a0 h n) (kk3 (.tp []) h n)
noncomputable def e275 : FE := ⟨Tryz.f275, bd Tryz.f275, [0, 1], [4], (.q .z (.q .z .z))⟩
theorem q275 (fu : Nat) (cf : CF) (a0 a1 : V) (h : H) (n : Id) (k : KV) : evF fu cf e275 [a0, a1] h n k = s275 fu cf a0 a1 h n k := by kernel_rfl
theorem p275 : PfOk Tryz.prog tbx mtab 275 (w2 (s275 fuX)) := pfo e275 Tryz.func275 (by kernel_rfl) (w2_ok (q275 fuX))
noncomputable def s285 (fu : Nat) (cf : CF) (a0 : V) (h : H) (n : Id) (k : KV) : R :=
 evBin2 tbx .neq 9 a0 (.s 0 0) fun v1 =>
 jp (fun (v2 : V) h n =>
 jp (fun (v4 : V) h n =>
 jp (fun (v6 : V) h n =>
 evPick v1 v6 (.b false) fun v8 =>
 brB v8 (
 evIx tbx 9 a0 (.i .i64 0) fun v9 =>
 evConv2 tbx mtab 5 21 v9 h n fun v10 h n =>
 k (.tp [v10, (.i .i64 1)]) h n) (
 cf 308 [a0] h n fun v11 h n =>
 evExt 0 v11 fun v12 =>
 evExt 1 v11 fun v13 =>
 k (.tp [v12, v13]) h n)) fun kk7 =>
 gdB v1 true ((evBin2 tbx .lss 5 v4 (.i .u8 128) fun v => kk7 v h n)) (kk7 (.tp []) h n)) fun kk5 =>
 gdB v1 true ((evIx tbx 9 v2 (.i .i64 0) fun v => kk5 v h n)) (kk5 (.tp []) h n)) fun kk3 =>
 gdB v1 true (kk3 a0 h n) (kk3 (.tp []) h n)
noncomputable def e285 : FE := ⟨Tryz.f285, bd Tryz.f285, [0], [2, 3], (.q .z (.q (.q .z (.c (.q .z .z) .z)) .z))⟩
theorem q285 (fu : Nat) (cf : CF) (a0 : V) (h : H) (n : Id) (k : KV) : evF fu cf e285 [a0] h n k = s285 fu cf a0 h n k := by kernel_rfl
theorem p285 : PfOk Tryz.prog tbx mtab 285 (w1 (s285 fuX)) := pfo e285 Tryz.func285 (by kernel_rfl) (w1_ok (q285 fuX))
noncomputable def s287 (fu : Nat) (cf : CF) (a0 a1 : V) (h : H) (n : Id) (k : KV) : R :=
 evLen tbx 9 a0 fun v1 =>
 evLen tbx 9 a1 fun v2 =>
 evBin2 tbx .geq 3 v1 v2 fun v3 =>
 jp (fun (v4 : V) h n =>
 jp (fun (v6 : V) h n =>
 jp (fun (v8 : V) h n =>
 jp (fun (v10 : V) h n =>
 jp (fun (v12 : V) h n =>
 jp (fun (v14 : V) h n =>
 jp (fun (v16 : V) h n =>
 jp (fun (v18 : V) h n =>
 jp (fun (v20 : V) h n =>
 evPick v3 v20 (.b false) fun v22 =>
 k v22 h n) fun kk21 =>
 gdB v3 true ((evBin2 tbx .eql 9 v16 v18 fun v => kk21 v h n)) (kk21 (.tp []) h n)) fun kk19 =>
 gdB v3 true (kk19 a1 h n) (kk19 (.tp []) h n)) fun kk17 =>
 gdB v3 true ((evSlc tbx 9 v4 (some v14) none fun v => kk17 v h n)) (kk17 (.tp []) h n)) fun kk15 =>
 gdB v3 true ((evBin2 tbx .sub 3 v8 v12 fun v => kk15 v h n)) (kk15 (.tp []) h n)) fun kk13 =>
 gdB v3 true ((evLen tbx 9 v10 fun v => kk13 v h n)) (kk13 (.tp []) h n)) fun kk11 =>
 gdB v3 true (kk11 a1 h n) (kk11 (.tp []) h n)) fun kk9 =>
 gdB v3 true ((evLen tbx 9 v6 fun v => kk9 v h n)) (kk9 (.tp []) h n)) fun kk7 =>
 gdB v3 true (kk7 a0 h n) (kk7 (.tp []) h n)) fun kk5 =>
 gdB v3 true (kk5 a0 h n) (kk5 (.tp []) h n)
noncomputable def e287 : FE := ⟨Tryz.f287, bd Tryz.f287, [0, 1], [4], (.q .z (.q .z .z))⟩
theorem q287 (fu : Nat) (cf : CF) (a0 a1 : V) (h : H) (n : Id) (k : KV) : evF fu cf e287 [a0, a1] h n k = s287 fu cf a0 a1 h n k := by kernel_rfl
theorem p287 : PfOk Tryz.prog tbx mtab 287 (w2 (s287 fuX)) := pfo e287 Tryz.func287 (by kernel_rfl) (w2_ok (q287 fuX))
noncomputable def s289 (fu : Nat) (cf : CF) (a0 a1 : V) (h : H) (n : Id) (k : KV) : R :=
 evLen tbx 160 a0 fun v1 =>
 jp (fun (s2 : VT []) h n =>
 k (.i .i64 (-1)) h n) fun kk3 =>
 lpC [0, 1, 7, 8] (fun lo5 s4 h n =>
 pc s4 fun v6 s7 =>
 pc s7 fun v8 s9 =>
 pc s9 fun v10 s11 =>
 pc s11 fun v12 s13 =>
 evBin2 tbx .lss 3 v12 v10 fun v14 =>
 brB v14 (
 jp (fun (s15 : VT [0, 1, 7, 8]) h n =>
 pc s15 fun v17 s18 =>
 pc s18 fun v19 s20 =>
 pc s20 fun v21 s22 =>
 pc s22 fun v23 s24 =>
 evBin2 tbx .add 3 v23 (.i .i64 1) fun v25 =>
 lo5 (v17, v19, v21, v25, ()) h n) fun kk16 =>
 evIa tbx 160 v6 v12 fun v26 =>
 evLoad tbx 303 v26 h fun v27 =>
 evCall cf v8 [v27] h n fun v28 h n =>
 brB v28 (
 k v12 h n) (
 kk16 (v6, v8, v10, v12, ()) h n)) (
 kk3 (()) h n)) fu (a0, a1, v1, (.i .i64 0), ()) h n
noncomputable def e289 : FE := ⟨Tryz.f289, bd Tryz.f289, [0, 1], [4], (.q .z (.q (.q .z (.b [] (.l [0, 1, 7, 8] (.q .z (.q (.c .z .z) (.q (.b [0, 1, 7, 8] (.q .z (.q .z (.c (.q .z .z) .z)))) .z)))))) (.q .z .z)))⟩
theorem q289 (fu : Nat) (cf : CF) (a0 a1 : V) (h : H) (n : Id) (k : KV) : evF fu cf e289 [a0, a1] h n k = s289 fu cf a0 a1 h n k := by kernel_rfl
theorem p289 : PfOk Tryz.prog tbx mtab 289 (w2 (s289 fuX)) := pfo e289 Tryz.func289 (by kernel_rfl) (w2_ok (q289 fuX))
noncomputable def s291 (fu : Nat) (cf : CF) (a0 : V) (h : H) (n : Id) (k : KV) : R :=
 evBin2 tbx .geq 5 a0 (.i .u8 65) fun v1 =>
 jp (fun (v2 : V) h n =>
 jp (fun (v4 : V) h n =>
 evPick v1 v4 (.b false) fun v6 =>
 jp (fun (v7 : V) h n =>
 jp (fun (v9 : V) h n =>
 jp (fun (v11 : V) h n =>
 jp (fun (v13 : V) h n =>
 jp (fun (v15 : V) h n =>
 jp (fun (v17 : V) h n =>
 evPick v6 (.b true) v17 fun v19 =>
 jp (fun (v20 : V) h n =>
 jp (fun (v22 : V) h n =>
 evPick v19 (.b true) v22 fun v24 =>
 k v24 h n) fun kk23 =>
 gdB v19 false ((evBin2 tbx .eql 5 v20 (.i .u8 95) fun v => kk23 v h n)) (kk23 (.tp []) h n)) fun kk21 =>
 gdB v19 false (kk21 a0 h n) (kk21 (.tp []) h n)) fun kk18 =>
 gdB v6 false ((evPick v11 v15 (.b false) fun v => kk18 v h n)) (kk18 (.tp []) h n)) fun kk16 =>
 gdB v11 true ((evBin2 tbx .leq 5 v13 (.i .u8 122) fun v => kk16 v h n)) (kk16 (.tp []) h n)) fun kk14 =>
 gdB v11 true (kk14 a0 h n) (kk14 (.tp []) h n)) fun kk12 =>
 gdB v6 false (kk12 v9 h n) (kk12 (.tp []) h n)) fun kk10 =>
 gdB v6 false ((evBin2 tbx .geq 5 v7 (.i .u8 97) fun v => kk10 v h n)) (kk10 (.tp []) h n)) fun kk8 =>
 gdB v6 false (kk8 a0 h n) (kk8 (.tp []) h n)) fun kk5 =>
 gdB v1 true ((evBin2 tbx .leq 5 v2 (.i .u8 90) fun v => kk5 v h n)) (kk5 (.tp []) h n)) fun kk3 =>
 gdB v1 true (kk3 a0 h n) (kk3 (.tp []) h n)
noncomputable def e291 : FE := ⟨Tryz.f291, bd Tryz.f291, [0], [2], (.q .z (.q .z .z))⟩
theorem q291 (fu : Nat) (cf : CF) (a0 : V) (h : H) (n : Id) (k : KV) : evF fu cf e291 [a0] h n k = s291 fu cf a0 h n k := by kernel_rfl
theorem p291 : PfOk Tryz.prog tbx mtab 291 (w1 (s291 fuX)) := pfo e291 Tryz.func291 (by kernel_rfl) (w1_ok (q291 fuX))
noncomputable def s292 (fu : Nat) (cf : CF) (a0 : V) (h : H) (n : Id) (k : KV) : R :=
 cf 291 [a0] h n fun v1 h n =>
 jp (fun (v2 : V) h n =>
 jp (fun (v4 : V) h n =>
 evPick v1 (.b true) v4 fun v6 =>
 jp (fun (v7 : V) h n =>
 jp (fun (v9 : V) h n =>
 evPick v6 (.b true) v9 fun v11 =>
 jp (fun (v12 : V) h n =>
 jp (fun (v14 : V) h n =>
 evPick v11 (.b true) v14 fun v16 =>
 jp (fun (v17 : V) h n =>
 jp (fun (v19 : V) h n =>
 evPick v16 (.b true) v19 fun v21 =>
 k v21 h n) fun kk20 =>
 gdB v16 false ((evBin2 tbx .eql 5 v17 (.i .u8 58) fun v => kk20 v h n)) (kk20 (.tp []) h n)) fun kk18 =>
 gdB v16 false (kk18 a0 h n) (kk18 (.tp []) h n)) fun kk15 =>
 gdB v11 false ((evBin2 tbx .eql 5 v12 (.i .u8 46) fun v => kk15 v h n)) (kk15 (.tp []) h n)) fun kk13 =>
 gdB v11 false (kk13 a0 h n) (kk13 (.tp []) h n)) fun kk10 =>
 gdB v6 false ((evBin2 tbx .eql 5 v7 (.i .u8 45) fun v => kk10 v h n)) (kk10 (.tp []) h n)) fun kk8 =>
 gdB v6 false (kk8 a0 h n) (kk8 (.tp []) h n)) fun kk5 =>
 gdB v1 false ((cf 188 [v2] h n kk5)) (kk5 (.tp []) h n)) fun kk3 =>
 gdB v1 false (kk3 a0 h n) (kk3 (.tp []) h n)
noncomputable def e292 : FE := ⟨Tryz.f292, bd Tryz.f292, [0], [2], (.q .z (.q .z .z))⟩
theorem q292 (fu : Nat) (cf : CF) (a0 : V) (h : H) (n : Id) (k : KV) : evF fu cf e292 [a0] h n k = s292 fu cf a0 h n k := by kernel_rfl
theorem p292 : PfOk Tryz.prog tbx mtab 292 (w1 (s292 fuX)) := pfo e292 Tryz.func292 (by kernel_rfl) (w1_ok (q292 fuX))
noncomputable def s293 (fu : Nat) (cf : CF) (a0 : V) (h : H) (n : Id) (k : KV) : R :=
 evNc' a0 fun v1 =>
 evFa tbx 314 0 v1 fun v2 =>
 evLoad tbx 312 v2 h fun v3 =>
 evBin2 tbx .eql 312 v3 .np fun v4 =>
 brB v4 (
 evConv2 tbx mtab 312 361 a0 h n fun v5 h n =>
 cf 311 [v5] h n fun v6 h n =>
 evConv2 tbx mtab 361 312 v6 h n fun v7 h n =>
 evNc' a0 fun v8 =>
 evFa tbx 314 0 v8 fun v9 =>
 evStore tbx 312 v9 v7 h n fun _ h n =>
 k (.tp []) h n) (
 evNc' a0 fun v10 =>
 evFa tbx 314 0 v10 fun v11 =>
 evLoad tbx 312 v11 h fun v12 =>
 evBin2 tbx .neq 312 v12 a0 fun v13 =>
 brB v13 (
 none) (
 k (.tp []) h n))
noncomputable def e293 : FE := ⟨Tryz.f293, bd Tryz.f293, [0], [], (.q .z (.c .z (.q .z (.c .z .z))))⟩
theorem q293 (fu : Nat) (cf : CF) (a0 : V) (h : H) (n : Id) (k : KV) : evF fu cf e293 [a0] h n k = s293 fu cf a0 h n k := by kernel_rfl
theorem p293 : PfOk Tryz.prog tbx mtab 293 (w1 (s293 fuX)) := pfo e293 Tryz.func293 (by kernel_rfl) (w1_ok (q293 fuX))
noncomputable def s294 (fu : Nat) (cf : CF) (a0 a1 a2 a3 a4 : V) (h : H) (n : Id) (k : KV) : R :=
 jp (fun (s1 : VT []) h n =>
 k (.tp []) h n) fun kk2 =>
 lpC [0, 1, 2, 3, 4, 10, 11] (fun lo4 s3 h n =>
 pc s3 fun v5 s6 =>
 pc s6 fun v7 s8 =>
 pc s8 fun v9 s10 =>
 pc s10 fun v11 s12 =>
 pc s12 fun v13 s14 =>
 pc s14 fun v15 s16 =>
 pc s16 fun v17 s18 =>
 jp (fun (s19 : VT [0, 1, 2, 3, 4, 10, 11]) h n =>
 pc s19 fun v21 s22 =>
 pc s22 fun v23 s24 =>
 pc s24 fun v25 s26 =>
 pc s26 fun v27 s28 =>
 pc s28 fun v29 s30 =>
 pc s30 fun v31 s32 =>
 pc s32 fun v33 s34 =>
 lo4 (v21, v23, v25, v27, v29, v31, v33, ()) h n) fun kk20 =>
 evBin2 tbx .sub 3 v9 v7 fun v35 =>
 evBin2 tbx .leq 3 v35 (.i .i64 12) fun v36 =>
 brB v36 (
 cf 312 [v5, v7, v9, v13] h n fun v37 h n =>
 k (.tp []) h n) (
 evBin2 tbx .eql 3 v11 (.i .i64 0) fun v38 =>
 brB v38 (
 cf 313 [v5, v7, v9, v13] h n fun v39 h n =>
 k (.tp []) h n) (
 jp (fun (s40 : VT [0, 1, 2, 3, 4, 10, 11, 12]) h n =>
 pc s40 fun v42 s43 =>
 pc s43 fun v44 s45 =>
 pc s45 fun v46 s47 =>
 pc s47 fun v48 s49 =>
 pc s49 fun v50 s51 =>
 pc s51 fun v52 s53 =>
 pc s53 fun v54 s55 =>
 pc s55 fun v56 s57 =>
 cf 315 [v42, v44, v46, v50] h n fun v58 h n =>
 evExt 0 v58 fun v59 =>
 evExt 1 v58 fun v60 =>
 jp (fun (s61 : VT [0, 1, 2, 3, 4, 10, 11, 12, 13, 14]) h n =>
 pc s61 fun v63 s64 =>
 pc s64 fun v65 s66 =>
 pc s66 fun v67 s68 =>
 pc s68 fun v69 s70 =>
 pc s70 fun v71 s72 =>
 pc s72 fun v73 s74 =>
 pc s74 fun v75 s76 =>
 pc s76 fun v77 s78 =>
 pc s78 fun v79 s80 =>
 pc s80 fun v81 s82 =>
 jp (fun (s83 : VT [0, 1, 2, 3, 4, 10, 11, 12, 13]) h n =>
 pc s83 fun v85 s86 =>
 pc s86 fun v87 s88 =>
 pc s88 fun v89 s90 =>
 pc s90 fun v91 s92 =>
 pc s92 fun v93 s94 =>
 pc s94 fun v95 s96 =>
 pc s96 fun v97 s98 =>
 pc s98 fun v99 s100 =>
 pc s100 fun v101 s102 =>
 evBin2 tbx .gtr 3 v87 (.i .i64 0) fun v103 =>
 jp (fun (v104 : V) h n =>
 jp (fun (v106 : V) h n =>
 jp (fun (v108 : V) h n =>
 jp (fun (v110 : V) h n =>
 jp (fun (v112 : V) h n =>
 jp (fun (v114 : V) h n =>
 jp (fun (v116 : V) h n =>
 jp (fun (v118 : V) h n =>
 jp (fun (v120 : V) h n =>
 jp (fun (v122 : V) h n =>
 thenR (wsB (wV v103 true) (evLoad tbx 57 v112 h fun w124 => cond (eqV 6 w124 v114) (okR) none) (cond (eqV 2 v114 (.tp [])) okR none)) (
 thenR (wsB (wV v103 true) (evLoad tbx 57 v120 h fun w125 => cond (eqV 6 w125 v122) (okR) none) (cond (eqV 2 v122 (.tp [])) okR none)) (
 jp (fun (v126 : V) h n =>
 jp (fun (v128 : V) h n =>
 jp (fun (v130 : V) h n =>
 evPick v103 v130 (.b false) fun v132 =>
 brB v132 (
 cf 318 [v85, v87, v89, v101, v93] h n fun v133 h n =>
 kk20 (v85, v133, v89, v91, v93, v95, v97, ()) h n) (
 cf 319 [v85, v87, v89, v101, v93] h n fun v134 h n =>
 evExt 0 v134 fun v135 =>
 evExt 1 v134 fun v136 =>
 evBin2 tbx .sub 3 v135 v87 fun v137 =>
 evBin2 tbx .sub 3 v89 v135 fun v138 =>
 evBin2 tbx .quo 3 v99 (.i .i64 8) fun v139 =>
 evBin2 tbx .lss 3 v137 v138 fun v140 =>
 brB v140 (
 evBin2 tbx .geq 3 v137 v139 fun v141 =>
 cf 294 [v85, v87, v135, v91, v93] h n fun v142 h n =>
 evBin2 tbx .add 3 v135 (.i .i64 1) fun v143 =>
 kk20 (v85, v143, v89, v91, v93, v141, v136, ()) h n) (
 evBin2 tbx .geq 3 v138 v139 fun v144 =>
 evBin2 tbx .add 3 v135 (.i .i64 1) fun v145 =>
 cf 294 [v85, v145, v89, v91, v93] h n fun v146 h n =>
 kk20 (v85, v87, v135, v91, v93, v144, v136, ()) h n))) fun kk131 =>
 wsB (wV v103 true) ((evUn .not v128 fun v => kk131 v h n)) (kk131 (.tp []) h n)) fun kk129 =>
 wsB (wV v103 true) ((evBin2 tbx .lss 3 v126 (.i .i64 0) fun v => kk129 v h n)) (kk129 (.tp []) h n)) fun kk127 =>
 wsB (wV v103 true) ((evCall cf v104 [v114, v122] h n kk127)) (kk127 (.tp []) h n)))) fun kk123 =>
 wsB (wV v103 true) ((evLoad tbx 57 v120 h fun v => kk123 v h n)) (kk123 (.tp []) h n)) fun kk121 =>
 wsB (wV v103 true) ((evIa tbx 29 v116 v118 fun v => kk121 v h n)) (kk121 (.tp []) h n)) fun kk119 =>
 wsB (wV v103 true) (kk119 v101 h n) (kk119 (.tp []) h n)) fun kk117 =>
 wsB (wV v103 true) (kk117 v85 h n) (kk117 (.tp []) h n)) fun kk115 =>
 wsB (wV v103 true) ((evLoad tbx 57 v112 h fun v => kk115 v h n)) (kk115 (.tp []) h n)) fun kk113 =>
 wsB (wV v103 true) ((evIa tbx 29 v106 v110 fun v => kk113 v h n)) (kk113 (.tp []) h n)) fun kk111 =>
 wsB (wV v103 true) ((evBin2 tbx .sub 3 v108 (.i .i64 1) fun v => kk111 v h n)) (kk111 (.tp []) h n)) fun kk109 =>
 wsB (wV v103 true) (kk109 v87 h n) (kk109 (.tp []) h n)) fun kk107 =>
 wsB (wV v103 true) (kk107 v85 h n) (kk107 (.tp []) h n)) fun kk105 =>
 wsB (wV v103 true) (kk105 v93 h n) (kk105 (.tp []) h n)) fun kk84 =>
 jp (fun (v147 : V) h n =>
 evPick v73 v147 (.b false) fun v149 =>
 jp (fun (v150 : V) h n =>
 jp (fun (v152 : V) h n =>
 evPick v149 v152 (.b false) fun v154 =>
 brB v154 (
 cf 317 [v63, v65, v67, v71] h n fun v155 h n =>
 brB v155 (
 k (.tp []) h n) (
 kk84 (v63, v65, v67, v69, v71, v73, v75, v77, v79, ()) h n)) (
 kk84 (v63, v65, v67, v69, v71, v73, v75, v77, v79, ()) h n)) fun kk153 =>
 gdB v149 true ((evBin2 tbx .eql 138 v150 (.i .i64 1) fun v => kk153 v h n)) (kk153 (.tp []) h n)) fun kk151 =>
 gdB v149 true (kk151 v81 h n) (kk151 (.tp []) h n)) fun kk148 =>
 gdB v73 true (kk148 v75 h n) (kk148 (.tp []) h n)) fun kk62 =>
 evBin2 tbx .eql 138 v60 (.i .i64 2) fun v156 =>
 brB v156 (
 cf 316 [v42, v44, v46, v50] h n fun v157 h n =>
 evBin2 tbx .sub 3 v46 (.i .i64 1) fun v158 =>
 evBin2 tbx .sub 3 v59 v44 fun v159 =>
 evBin2 tbx .sub 3 v158 v159 fun v160 =>
 kk62 (v42, v44, v46, v48, v50, v52, v54, v56, v160, (.i .i64 1), ()) h n) (
 kk62 (v42, v44, v46, v48, v50, v52, v54, v56, v59, v60, ()) h n)) fun kk41 =>
 evUn .not v15 fun v161 =>
 brB v161 (
 cf 314 [v5, v7, v9, v13] h n fun v162 h n =>
 evBin2 tbx .sub 3 v11 (.i .i64 1) fun v163 =>
 kk41 (v5, v7, v9, v163, v13, v15, v17, v35, ()) h n) (
 kk41 (v5, v7, v9, v11, v13, v15, v17, v35, ()) h n)))) fu (a0, a1, a2, a3, a4, (.b true), (.b true), ()) h n
noncomputable def e294 : FE := ⟨Tryz.f294, bd Tryz.f294, [0, 1, 2, 3, 4], [], (.q .z (.q .z (.b [] (.l [0, 1, 2, 3, 4, 10, 11] (.b [0, 1, 2, 3, 4, 10, 11] (.q .z (.q (.q .z (.c (.q .z .z) .z)) (.q (.q .z (.c (.q .z .z) .z)) (.s [0, 1, 2, 3, 4, 10, 11, 12] (.q .z (.c (.q .z .z) .z)) (.q .z (.s [0, 1, 2, 3, 4, 10, 11, 12, 13, 14] (.q .z (.c (.q .z (.q .z .z)) .z)) (.s [0, 1, 2, 3, 4, 10, 11, 12, 13] (.q .z (.c (.q .z (.c .z .z)) .z)) (.q (.q .z (.c (.q .z (.q .z .z)) .z)) (.q .z (.q .z (.q .z (.q .z (.q .z (.c (.q .z (.q .z .z)) (.q .z (.q .z .z)))))))))))))))))))))⟩
theorem q294 (fu : Nat) (cf : CF) (a0 a1 a2 a3 a4 : V) (h : H) (n : Id) (k : KV) : evF fu cf e294 [a0, a1, a2, a3, a4] h n k = s294 fu cf a0 a1 a2 a3 a4 h n k := by kernel_rfl
theorem p294 : PfOk Tryz.prog tbx mtab 294 (w5 (s294 fuX)) := pfo e294 Tryz.func294 (by kernel_rfl) (w5_ok (q294 fuX))
noncomputable def s295 (fu : Nat) (cf : CF) (a0 a1 : V) (h : H) (n : Id) (k : KV) : R :=
 cf 224 [a0, a1] h n fun v1 h n =>
 evBin2 tbx .geq 3 v1 (.i .i64 0) fun v2 =>
 k v2 h n
noncomputable def e295 : FE := ⟨Tryz.f295, bd Tryz.f295, [0, 1], [4], (.q .z (.q .z .z))⟩
theorem q295 (fu : Nat) (cf : CF) (a0 a1 : V) (h : H) (n : Id) (k : KV) : evF fu cf e295 [a0, a1] h n k = s295 fu cf a0 a1 h n k := by kernel_rfl
theorem p295 : PfOk Tryz.prog tbx mtab 295 (w2 (s295 fuX)) := pfo e295 Tryz.func295 (by kernel_rfl) (w2_ok (q295 fuX))
noncomputable def s296 (fu : Nat) (cf : CF) (a0 a1 : V) (h : H) (n : Id) (k : KV) : R :=
 evLen tbx 71 a0 fun v1 =>
 jp (fun (s2 : VT [0, 1]) h n =>
 pc s2 fun v4 s5 =>
 pc s5 fun v6 s7 =>
 jp (fun (s8 : VT [0, 1, 5]) h n =>
 pc s8 fun v10 s11 =>
 pc s11 fun v12 s13 =>
 pc s13 fun v14 s15 =>
 evLen tbx 71 v10 fun v16 =>
 jp (fun (s17 : VT [0, 1, 5]) h n =>
 pc s17 fun v19 s20 =>
 pc s20 fun v21 s22 =>
 pc s22 fun v23 s24 =>
 evAlloc tbx 314 h n fun v25 h n =>
 cf 320 [v25, v23] h n fun v26 h n =>
 evIa tbx 71 v19 (.i .i64 0) fun v27 =>
 evLoad tbx 9 v27 h fun v28 =>
 cf 257 [v25, v28] h n fun v29 h n =>
 evSlc tbx 71 v19 (some (.i .i64 1)) none fun v30 =>
 evLen tbx 71 v30 fun v31 =>
 jp (fun (s32 : VT [8]) h n =>
 pc s32 fun v34 s35 =>
 cf 258 [v34] h n fun v36 h n =>
 k v36 h n) fun kk33 =>
 lpC [1, 8, 63, 64, 65] (fun lo38 s37 h n =>
 pc s37 fun v39 s40 =>
 pc s40 fun v41 s42 =>
 pc s42 fun v43 s44 =>
 pc s44 fun v45 s46 =>
 pc s46 fun v47 s48 =>
 evBin2 tbx .lss 3 v47 v45 fun v49 =>
 brB v49 (
 jp (fun (s50 : VT [1, 8, 63, 64, 65]) h n =>
 pc s50 fun v52 s53 =>
 pc s53 fun v54 s55 =>
 pc s55 fun v56 s57 =>
 pc s57 fun v58 s59 =>
 pc s59 fun v60 s61 =>
 evBin2 tbx .add 3 v60 (.i .i64 1) fun v62 =>
 lo38 (v52, v54, v56, v58, v62, ()) h n) fun kk51 =>
 evIa tbx 71 v43 v47 fun v63 =>
 evLoad tbx 9 v63 h fun v64 =>
 cf 257 [v41, v39] h n fun v65 h n =>
 cf 257 [v41, v64] h n fun v66 h n =>
 kk51 (v39, v41, v43, v45, v47, ()) h n) (
 kk33 (v41, ()) h n)) fu (v21, v25, v30, v31, (.i .i64 0), ()) h n) fun kk18 =>
 lpC [0, 1, 5, 39, 40, 41] (fun lo68 s67 h n =>
 pc s67 fun v69 s70 =>
 pc s70 fun v71 s72 =>
 pc s72 fun v73 s74 =>
 pc s74 fun v75 s76 =>
 pc s76 fun v77 s78 =>
 pc s78 fun v79 s80 =>
 evBin2 tbx .lss 3 v79 v77 fun v81 =>
 brB v81 (
 jp (fun (s82 : VT [0, 1, 5, 39, 40, 41]) h n =>
 pc s82 fun v84 s85 =>
 pc s85 fun v86 s87 =>
 pc s87 fun v88 s89 =>
 pc s89 fun v90 s91 =>
 pc s91 fun v92 s93 =>
 pc s93 fun v94 s95 =>
 evBin2 tbx .add 3 v94 (.i .i64 1) fun v96 =>
 lo68 (v84, v86, v88, v90, v92, v96, ()) h n) fun kk83 =>
 evIa tbx 71 v75 v79 fun v97 =>
 evLoad tbx 9 v97 h fun v98 =>
 jp (fun (s99 : VT [0, 1, 5, 7, 39, 40, 41]) h n =>
 pc s99 fun v101 s102 =>
 pc s102 fun v103 s104 =>
 pc s104 fun v105 s106 =>
 pc s106 fun v107 s108 =>
 pc s108 fun v109 s110 =>
 pc s110 fun v111 s112 =>
 pc s112 fun v113 s114 =>
 evLen tbx 9 v107 fun v115 =>
 evBin2 tbx .add 3 v105 v115 fun v116 =>
 kk83 (v101, v103, v116, v109, v111, v113, ()) h n) fun kk100 =>
 evLen tbx 9 v98 fun v117 =>
 evBin2 tbx .sub 3 (.i .i64 9223372036854775807) v73 fun v118 =>
 evBin2 tbx .gtr 3 v117 v118 fun v119 =>
 brB v119 (
 none) (
 kk100 (v69, v71, v73, v98, v75, v77, v79, ()) h n)) (
 kk18 (v69, v71, v73, ()) h n)) fu (v10, v12, v14, v10, v16, (.i .i64 0), ()) h n) fun kk9 =>
 evLen tbx 9 v6 fun v120 =>
 evBin2 tbx .gtr 3 v120 (.i .i64 0) fun v121 =>
 brB v121 (
 jp (fun (s122 : VT [0, 1, 5]) h n =>
 pc s122 fun v124 s125 =>
 pc s125 fun v126 s127 =>
 pc s127 fun v128 s129 =>
 evLen tbx 9 v126 fun v130 =>
 evLen tbx 71 v124 fun v131 =>
 evBin2 tbx .sub 3 v131 (.i .i64 1) fun v132 =>
 evBin2 tbx .mul 3 v130 v132 fun v133 =>
 evBin2 tbx .add 3 v128 v133 fun v134 =>
 kk9 (v124, v126, v134, ()) h n) fun kk123 =>
 evLen tbx 9 v6 fun v135 =>
 evLen tbx 71 v4 fun v136 =>
 evBin2 tbx .sub 3 v136 (.i .i64 1) fun v137 =>
 evBin2 tbx .quo 3 (.i .i64 9223372036854775807) v137 fun v138 =>
 evBin2 tbx .geq 3 v135 v138 fun v139 =>
 brB v139 (
 none) (
 kk123 (v4, v6, (.i .i64 0), ()) h n)) (
 kk9 (v4, v6, (.i .i64 0), ()) h n)) fun kk3 =>
 evBin2 tbx .eql 3 v1 (.i .i64 0) fun v140 =>
 brB v140 (
 k (.s 0 0) h n) (
 evBin2 tbx .eql 3 v1 (.i .i64 1) fun v141 =>
 brB v141 (
 evIa tbx 71 a0 (.i .i64 0) fun v142 =>
 evLoad tbx 9 v142 h fun v143 =>
 k v143 h n) (
 kk3 (a0, a1, ()) h n))
noncomputable def e296 : FE := ⟨Tryz.f296, bd Tryz.f296, [0, 1], [4], (.q .z (.q (.q .z (.b [0, 1] (.q .z (.c (.q .z .z) (.q .z (.c (.q .z .z) .z)))))) (.q .z (.s [0, 1, 5] (.q .z (.c (.s [0, 1, 5] (.q .z (.c .z .z)) .z) .z)) (.q (.q .z (.b [0, 1, 5] (.l [0, 1, 5, 39, 40, 41] (.q .z (.q (.c .z .z) (.q (.b [0, 1, 5, 39, 40, 41] (.q .z (.s [0, 1, 5, 7, 39, 40, 41] (.q .z (.c .z .z)) .z))) .z)))))) (.q .z (.q .z (.q .z (.q (.q .z (.b [8] (.l [1, 8, 63, 64, 65] (.q .z (.q (.c .z .z) (.q (.b [1, 8, 63, 64, 65] (.q .z (.q .z .z))) .z)))))) (.q .z .z))))))))))⟩
theorem q296 (fu : Nat) (cf : CF) (a0 a1 : V) (h : H) (n : Id) (k : KV) : evF fu cf e296 [a0, a1] h n k = s296 fu cf a0 a1 h n k := by kernel_rfl
theorem p296 : PfOk Tryz.prog tbx mtab 296 (w2 (s296 fuX)) := pfo e296 Tryz.func296 (by kernel_rfl) (w2_ok (q296 fuX))
noncomputable def s297 (fu : Nat) (cf : CF) (a0 : V) (h : H) (n : Id) (k : KV) : R :=
 cf 60 [a0, (.s 2 9339)] h n fun v1 h n =>
 k v1 h n
noncomputable def e297 : FE := ⟨Tryz.f297, bd Tryz.f297, [0], [2], (.q .z (.q .z .z))⟩
theorem q297 (fu : Nat) (cf : CF) (a0 : V) (h : H) (n : Id) (k : KV) : evF fu cf e297 [a0] h n k = s297 fu cf a0 h n k := by kernel_rfl
theorem p297 : PfOk Tryz.prog tbx mtab 297 (w1 (s297 fuX)) := pfo e297 Tryz.func297 (by kernel_rfl) (w1_ok (q297 fuX))
noncomputable def s298 (fu : Nat) (cf : CF) (a0 a1 : V) (h : H) (n : Id) (k : KV) : R :=
 evLen tbx 328 a0 fun v1 =>
 jp (fun (s2 : VT []) h n =>
 k (.i .i64 (-1)) h n) fun kk3 =>
 lpC [0, 1, 7, 8] (fun lo5 s4 h n =>
 pc s4 fun v6 s7 =>
 pc s7 fun v8 s9 =>
 pc s9 fun v10 s11 =>
 pc s11 fun v12 s13 =>
 evBin2 tbx .lss 3 v12 v10 fun v14 =>
 brB v14 (
 jp (fun (s15 : VT [0, 1, 7, 8]) h n =>
 pc s15 fun v17 s18 =>
 pc s18 fun v19 s20 =>
 pc s20 fun v21 s22 =>
 pc s22 fun v23 s24 =>
 evBin2 tbx .add 3 v23 (.i .i64 1) fun v25 =>
 lo5 (v17, v19, v21, v25, ()) h n) fun kk16 =>
 evIa tbx 328 v6 v12 fun v26 =>
 evLoad tbx 327 v26 h fun v27 =>
 evCall cf v8 [v27] h n fun v28 h n =>
 brB v28 (
 k v12 h n) (
 kk16 (v6, v8, v10, v12, ()) h n)) (
 kk3 (()) h n)) fu (a0, a1, v1, (.i .i64 0), ()) h n
noncomputable def e298 : FE := ⟨Tryz.f298, bd Tryz.f298, [0, 1], [4], (.q .z (.q (.q .z (.b [] (.l [0, 1, 7, 8] (.q .z (.q (.c .z .z) (.q (.b [0, 1, 7, 8] (.q .z (.q .z (.c (.q .z .z) .z)))) .z)))))) (.q .z .z)))⟩
theorem q298 (fu : Nat) (cf : CF) (a0 a1 : V) (h : H) (n : Id) (k : KV) : evF fu cf e298 [a0, a1] h n k = s298 fu cf a0 a1 h n k := by kernel_rfl
theorem p298 : PfOk Tryz.prog tbx mtab 298 (w2 (s298 fuX)) := pfo e298 Tryz.func298 (by kernel_rfl) (w2_ok (q298 fuX))
noncomputable def s299 (fu : Nat) (cf : CF) (a0 a1 : V) (h : H) (n : Id) (k : KV) : R :=
 evBox a0 h n fun v1 h n =>
 evBuildSl tbx 71 5 [(0, (.s 0 0)), (1, (.s 7 27988538522430565)), (2, (.s 7 32217264604933477)), (3, (.s 8 8102661233957954916)), (4, (.s 4 1952805748))] h n fun v2 h n =>
 evFa tbx 51 5 v1 fun v3 =>
 evLoad tbx 9 v3 h fun v4 =>
 cf 321 [v2, v4] h n fun v5 h n =>
 jp (fun (v6 : V) h n =>
 jp (fun (v8 : V) h n =>
 jp (fun (v10 : V) h n =>
 jp (fun (v12 : V) h n =>
 jp (fun (v14 : V) h n =>
 jp (fun (v16 : V) h n =>
 jp (fun (v18 : V) h n =>
 jp (fun (v20 : V) h n =>
 jp (fun (v22 : V) h n =>
 jp (fun (v24 : V) h n =>
 evPick v5 (.b true) v24 fun v26 =>
 k v26 h n) fun kk25 =>
 gdB v5 false ((evPick v16 v22 (.b false) fun v => kk25 v h n)) (kk25 (.tp []) h n)) fun kk23 =>
 gdB v16 true ((evBin2 tbx .eql 9 v20 (.s 3 7368557) fun v => kk23 v h n)) (kk23 (.tp []) h n)) fun kk21 =>
 gdB v16 true ((evLoad tbx 9 v18 h fun v => kk21 v h n)) (kk21 (.tp []) h n)) fun kk19 =>
 gdB v16 true ((evFa tbx 51 3 v1 fun v => kk19 v h n)) (kk19 (.tp []) h n)) fun kk17 =>
 gdB v5 false (kk17 v14 h n) (kk17 (.tp []) h n)) fun kk15 =>
 gdB v5 false ((evPick v8 v12 (.b false) fun v => kk15 v h n)) (kk15 (.tp []) h n)) fun kk13 =>
 gdB v8 true ((cf 168 [v10] h n kk13)) (kk13 (.tp []) h n)) fun kk11 =>
 gdB v8 true ((evLoad tbx 51 v1 h fun v => kk11 v h n)) (kk11 (.tp []) h n)) fun kk9 =>
 gdB v5 false (kk9 v6 h n) (kk9 (.tp []) h n)) fun kk7 =>
 gdB v5 false (kk7 a1 h n) (kk7 (.tp []) h n)
noncomputable def e299 : FE := ⟨Tryz.f299, bd Tryz.f299, [0, 1], [4], (.q .z (.q .z .z))⟩
theorem q299 (fu : Nat) (cf : CF) (a0 a1 : V) (h : H) (n : Id) (k : KV) : evF fu cf e299 [a0, a1] h n k = s299 fu cf a0 a1 h n k := by kernel_rfl
theorem p299 : PfOk Tryz.prog tbx mtab 299 (w2 (s299 fuX)) := pfo e299 Tryz.func299 (by kernel_rfl) (w2_ok (q299 fuX))
noncomputable def s300 (fu : Nat) (cf : CF) (a0 : V) (h : H) (n : Id) (k : KV) : R :=
 evBox a0 h n fun v1 h n =>
 evFa tbx 63 0 v1 fun v2 =>
 evLoad tbx 9 v2 h fun v3 =>
 cf 301 [v3] h n fun v4 h n =>
 evUn .not v4 fun v5 =>
 jp (fun (v6 : V) h n =>
 jp (fun (v8 : V) h n =>
 jp (fun (v10 : V) h n =>
 jp (fun (v12 : V) h n =>
 evPick v5 (.b true) v12 fun v14 =>
 k v14 h n) fun kk13 =>
 gdB v5 false ((evUn .not v10 fun v => kk13 v h n)) (kk13 (.tp []) h n)) fun kk11 =>
 gdB v5 false ((cf 301 [v8] h n kk11)) (kk11 (.tp []) h n)) fun kk9 =>
 gdB v5 false ((evLoad tbx 9 v6 h fun v => kk9 v h n)) (kk9 (.tp []) h n)) fun kk7 =>
 gdB v5 false ((evFa tbx 63 1 v1 fun v => kk7 v h n)) (kk7 (.tp []) h n)
noncomputable def e300 : FE := ⟨Tryz.f300, bd Tryz.f300, [0], [2], (.q .z (.q .z .z))⟩
theorem q300 (fu : Nat) (cf : CF) (a0 : V) (h : H) (n : Id) (k : KV) : evF fu cf e300 [a0] h n k = s300 fu cf a0 h n k := by kernel_rfl
theorem p300 : PfOk Tryz.prog tbx mtab 300 (w1 (s300 fuX)) := pfo e300 Tryz.func300 (by kernel_rfl) (w1_ok (q300 fuX))
noncomputable def s301 (fu : Nat) (cf : CF) (a0 : V) (h : H) (n : Id) (k : KV) : R :=
 evBin2 tbx .eql 9 a0 (.s 1 42) fun v1 =>
 jp (fun (v2 : V) h n =>
 jp (fun (v4 : V) h n =>
 evPick v1 (.b true) v4 fun v6 =>
 k v6 h n) fun kk5 =>
 gdB v1 false ((cf 58 [v2] h n kk5)) (kk5 (.tp []) h n)) fun kk3 =>
 gdB v1 false (kk3 a0 h n) (kk3 (.tp []) h n)
noncomputable def e301 : FE := ⟨Tryz.f301, bd Tryz.f301, [0], [2], (.q .z (.q .z .z))⟩
theorem q301 (fu : Nat) (cf : CF) (a0 : V) (h : H) (n : Id) (k : KV) : evF fu cf e301 [a0] h n k = s301 fu cf a0 h n k := by kernel_rfl
theorem p301 : PfOk Tryz.prog tbx mtab 301 (w1 (s301 fuX)) := pfo e301 Tryz.func301 (by kernel_rfl) (w1_ok (q301 fuX))
noncomputable def s302 (fu : Nat) (cf : CF) (a0 a1 : V) (h : H) (n : Id) (k : KV) : R :=
 evBox a0 h n fun v1 h n =>
 jp (fun (s2 : VT []) h n =>
 k (.i .i64 0) h n) fun kk3 =>
 evFa tbx 51 2 v1 fun v4 =>
 evLoad tbx 9 v4 h fun v5 =>
 evBin2 tbx .eql 9 v5 (.s 0 0) fun v6 =>
 brB v6 (
 brB a1 (
 k (.i .i64 11) h n) (
 k (.i .i64 0) h n)) (
 evFa tbx 51 2 v1 fun v7 =>
 evLoad tbx 9 v7 h fun v8 =>
 cf 114 [v8] h n fun v9 h n =>
 brB v9 (
 jp (fun (v10 : V) h n =>
 jp (fun (v12 : V) h n =>
 evPick a1 v12 (.b false) fun v14 =>
 brB v14 (
 k (.i .i64 11) h n) (
 evFa tbx 51 2 v1 fun v15 =>
 evLoad tbx 9 v15 h fun v16 =>
 cf 115 [v16] h n fun v17 h n =>
 evExt 0 v17 fun v18 =>
 evExt 1 v17 fun v19 =>
 k v19 h n)) fun kk13 =>
 gdB a1 true ((cf 168 [v10] h n kk13)) (kk13 (.tp []) h n)) fun kk11 =>
 gdB a1 true ((evLoad tbx 51 v1 h fun v => kk11 v h n)) (kk11 (.tp []) h n)) (
 evFa tbx 51 2 v1 fun v20 =>
 evLoad tbx 9 v20 h fun v21 =>
 cf 59 [v21] h n fun v22 h n =>
 evUn .not v22 fun v23 =>
 jp (fun (v24 : V) h n =>
 jp (fun (v26 : V) h n =>
 jp (fun (v28 : V) h n =>
 evPick v23 (.b true) v28 fun v30 =>
 brB v30 (
 k (.i .i64 11) h n) (
 kk3 (()) h n)) fun kk29 =>
 gdB v23 false ((cf 60 [v26, (.s 1 58)] h n kk29)) (kk29 (.tp []) h n)) fun kk27 =>
 gdB v23 false ((evLoad tbx 9 v24 h fun v => kk27 v h n)) (kk27 (.tp []) h n)) fun kk25 =>
 gdB v23 false ((evFa tbx 51 2 v1 fun v => kk25 v h n)) (kk25 (.tp []) h n)))
noncomputable def e302 : FE := ⟨Tryz.f302, bd Tryz.f302, [0, 1], [4], (.q .z (.q (.b [] (.q .z (.c (.q (.q .z (.c (.q .z .z) .z)) (.q .z .z)) (.q .z (.c (.q (.q .z (.c (.q .z .z) .z)) (.q .z (.q .z .z))) (.q .z (.c (.q .z .z) .z))))))) (.q .z .z)))⟩
theorem q302 (fu : Nat) (cf : CF) (a0 a1 : V) (h : H) (n : Id) (k : KV) : evF fu cf e302 [a0, a1] h n k = s302 fu cf a0 a1 h n k := by kernel_rfl
theorem p302 : PfOk Tryz.prog tbx mtab 302 (w2 (s302 fuX)) := pfo e302 Tryz.func302 (by kernel_rfl) (w2_ok (q302 fuX))
noncomputable def s312 (fu : Nat) (cf : CF) (a0 a1 a2 a3 : V) (h : H) (n : Id) (k : KV) : R :=
 evBin2 tbx .add 3 a1 (.i .i64 1) fun v1 =>
 jp (fun (s2 : VT []) h n =>
 k (.tp []) h n) fun kk3 =>
 lpC [0, 1, 2, 3, 8] (fun lo5 s4 h n =>
 pc s4 fun v6 s7 =>
 pc s7 fun v8 s9 =>
 pc s9 fun v10 s11 =>
 pc s11 fun v12 s13 =>
 pc s13 fun v14 s15 =>
 evBin2 tbx .lss 3 v14 v10 fun v16 =>
 brB v16 (
 jp (fun (s17 : VT [0, 1, 2, 3, 8]) h n =>
 pc s17 fun v19 s20 =>
 pc s20 fun v21 s22 =>
 pc s22 fun v23 s24 =>
 pc s24 fun v25 s26 =>
 pc s26 fun v27 s28 =>
 evBin2 tbx .add 3 v27 (.i .i64 1) fun v29 =>
 lo5 (v19, v21, v23, v25, v29, ()) h n) fun kk18 =>
 jp (fun (s30 : VT [0, 1, 2, 3, 8]) h n =>
 pc s30 fun v32 s33 =>
 pc s33 fun v34 s35 =>
 pc s35 fun v36 s37 =>
 pc s37 fun v38 s39 =>
 pc s39 fun v40 s41 =>
 kk18 (v32, v34, v36, v38, v40, ()) h n) fun kk31 =>
 lpC [0, 1, 2, 3, 8, 9] (fun lo43 s42 h n =>
 pc s42 fun v44 s45 =>
 pc s45 fun v46 s47 =>
 pc s47 fun v48 s49 =>
 pc s49 fun v50 s51 =>
 pc s51 fun v52 s53 =>
 pc s53 fun v54 s55 =>
 evBin2 tbx .gtr 3 v54 v46 fun v56 =>
 jp (fun (v57 : V) h n =>
 jp (fun (v59 : V) h n =>
 jp (fun (v61 : V) h n =>
 jp (fun (v63 : V) h n =>
 jp (fun (v65 : V) h n =>
 jp (fun (v67 : V) h n =>
 jp (fun (v69 : V) h n =>
 jp (fun (v71 : V) h n =>
 jp (fun (v73 : V) h n =>
 jp (fun (v75 : V) h n =>
 thenR (wsB (wV v56 true) (evLoad tbx 57 v63 h fun w77 => cond (eqV 6 w77 v65) (okR) none) (cond (eqV 2 v65 (.tp [])) okR none)) (
 thenR (wsB (wV v56 true) (evLoad tbx 57 v73 h fun w78 => cond (eqV 6 w78 v75) (okR) none) (cond (eqV 2 v75 (.tp [])) okR none)) (
 jp (fun (v79 : V) h n =>
 jp (fun (v81 : V) h n =>
 evPick v56 v81 (.b false) fun v83 =>
 brB v83 (
 jp (fun (s84 : VT [0, 1, 2, 3, 8, 9]) h n =>
 pc s84 fun v86 s87 =>
 pc s87 fun v88 s89 =>
 pc s89 fun v90 s91 =>
 pc s91 fun v92 s93 =>
 pc s93 fun v94 s95 =>
 pc s95 fun v96 s97 =>
 evBin2 tbx .sub 3 v96 (.i .i64 1) fun v98 =>
 lo43 (v86, v88, v90, v92, v94, v98, ()) h n) fun kk85 =>
 evBin2 tbx .sub 3 v54 (.i .i64 1) fun v99 =>
 evBin2 tbx .sub 3 v54 (.i .i64 1) fun v100 =>
 evIa tbx 29 v44 v100 fun v101 =>
 evLoad tbx 57 v101 h fun v102 =>
 evIa tbx 29 v44 v54 fun v103 =>
 evLoad tbx 57 v103 h fun v104 =>
 evIa tbx 29 v44 v54 fun v105 =>
 evLoad tbx 57 v101 h fun w108 => cond (eqV 6 w108 v102) (
 evLoad tbx 57 v103 h fun w107 => cond (eqV 6 w107 v104) (
 evStore tbx 57 v105 v102 h n fun _ h n =>
 evIa tbx 29 v44 v99 fun v106 =>
 evStore tbx 57 v106 v104 h n fun _ h n =>
 kk85 (v44, v46, v48, v50, v52, v54, ()) h n) none) none) (
 kk31 (v44, v46, v48, v50, v52, ()) h n)) fun kk82 =>
 wsB (wV v56 true) ((evBin2 tbx .lss 3 v79 (.i .i64 0) fun v => kk82 v h n)) (kk82 (.tp []) h n)) fun kk80 =>
 wsB (wV v56 true) ((evCall cf v57 [v65, v75] h n kk80)) (kk80 (.tp []) h n)))) fun kk76 =>
 wsB (wV v56 true) ((evLoad tbx 57 v73 h fun v => kk76 v h n)) (kk76 (.tp []) h n)) fun kk74 =>
 wsB (wV v56 true) ((evIa tbx 29 v67 v71 fun v => kk74 v h n)) (kk74 (.tp []) h n)) fun kk72 =>
 wsB (wV v56 true) ((evBin2 tbx .sub 3 v69 (.i .i64 1) fun v => kk72 v h n)) (kk72 (.tp []) h n)) fun kk70 =>
 wsB (wV v56 true) (kk70 v54 h n) (kk70 (.tp []) h n)) fun kk68 =>
 wsB (wV v56 true) (kk68 v44 h n) (kk68 (.tp []) h n)) fun kk66 =>
 wsB (wV v56 true) ((evLoad tbx 57 v63 h fun v => kk66 v h n)) (kk66 (.tp []) h n)) fun kk64 =>
 wsB (wV v56 true) ((evIa tbx 29 v59 v61 fun v => kk64 v h n)) (kk64 (.tp []) h n)) fun kk62 =>
 wsB (wV v56 true) (kk62 v54 h n) (kk62 (.tp []) h n)) fun kk60 =>
 wsB (wV v56 true) (kk60 v44 h n) (kk60 (.tp []) h n)) fun kk58 =>
 wsB (wV v56 true) (kk58 v50 h n) (kk58 (.tp []) h n)) fu (v6, v8, v10, v12, v14, v14, ()) h n) (
 kk3 (()) h n)) fu (a0, a1, a2, a3, v1, ()) h n
noncomputable def e312 : FE := ⟨Tryz.f312, bd Tryz.f312, [0, 1, 2, 3], [], (.q .z (.b [] (.l [0, 1, 2, 3, 8] (.q (.q .z (.c .z .z)) (.q (.b [0, 1, 2, 3, 8] (.q .z (.b [0, 1, 2, 3, 8] (.l [0, 1, 2, 3, 8, 9] (.q (.q .z (.c .z .z)) (.q (.b [0, 1, 2, 3, 8, 9] .z) .z)))))) .z)))))⟩
theorem q312 (fu : Nat) (cf : CF) (a0 a1 a2 a3 : V) (h : H) (n : Id) (k : KV) : evF fu cf e312 [a0, a1, a2, a3] h n k = s312 fu cf a0 a1 a2 a3 h n k := by kernel_rfl
theorem p312 : PfOk Tryz.prog tbx mtab 312 (w4 (s312 fuX)) := pfo e312 Tryz.func312 (by kernel_rfl) (w4_ok (q312 fuX))
noncomputable def s315 (fu : Nat) (cf : CF) (a0 a1 a2 a3 : V) (h : H) (n : Id) (k : KV) : R :=
 evBin2 tbx .sub 3 a2 a1 fun v1 =>
 evAlloc tbx 3 h n fun v2 h n =>
 evBin2 tbx .quo 3 v1 (.i .i64 4) fun v3 =>
 evBin2 tbx .mul 3 v3 (.i .i64 1) fun v4 =>
 evBin2 tbx .add 3 a1 v4 fun v5 =>
 evBin2 tbx .quo 3 v1 (.i .i64 4) fun v6 =>
 evBin2 tbx .mul 3 v6 (.i .i64 2) fun v7 =>
 evBin2 tbx .add 3 a1 v7 fun v8 =>
 evBin2 tbx .quo 3 v1 (.i .i64 4) fun v9 =>
 evBin2 tbx .mul 3 v9 (.i .i64 3) fun v10 =>
 evBin2 tbx .add 3 a1 v10 fun v11 =>
 jp (fun (s12 : VT [11, 13]) h n =>
 pc s12 fun v14 s15 =>
 pc s15 fun v16 s17 =>
 evLoad tbx 3 v14 h fun v18 =>
 jp (fun (s19 : VT [8, 9]) h n =>
 pc s19 fun v21 s22 =>
 pc s22 fun v23 s24 =>
 k (.tp [v21, v23]) h n) fun kk20 =>
 evBin2 tbx .eql 3 v18 (.i .i64 0) fun v25 =>
 brB v25 (
 k (.tp [v16, (.i .i64 1)]) h n) (
 evBin2 tbx .eql 3 v18 (.i .i64 12) fun v26 =>
 brB v26 (
 k (.tp [v16, (.i .i64 2)]) h n) (
 k (.tp [v16, (.i .i64 0)]) h n))) fun kk13 =>
 evBin2 tbx .geq 3 v1 (.i .i64 8) fun v27 =>
 brB v27 (
 jp (fun (s28 : VT [0, 3, 11, 12, 13, 14]) h n =>
 pc s28 fun v30 s31 =>
 pc s31 fun v32 s33 =>
 pc s33 fun v34 s35 =>
 pc s35 fun v36 s37 =>
 pc s37 fun v38 s39 =>
 pc s39 fun v40 s41 =>
 cf 328 [v30, v36, v38, v40, v34, v32] h n fun v42 h n =>
 kk13 (v34, v42, ()) h n) fun kk29 =>
 evBin2 tbx .geq 3 v1 (.i .i64 50) fun v43 =>
 brB v43 (
 cf 327 [a0, v5, v2, a3] h n fun v44 h n =>
 cf 327 [a0, v8, v2, a3] h n fun v45 h n =>
 cf 327 [a0, v11, v2, a3] h n fun v46 h n =>
 kk29 (a0, a3, v2, v44, v45, v46, ()) h n) (
 kk29 (a0, a3, v2, v5, v8, v11, ()) h n)) (
 kk13 (v2, v8, ()) h n)
noncomputable def e315 : FE := ⟨Tryz.f315, bd Tryz.f315, [0, 1, 2, 3], [8, 9], (.q .z (.q .z (.q .z (.q .z (.q .z (.q .z (.s [11, 13] (.q .z (.c (.s [0, 3, 11, 12, 13, 14] (.q .z (.c (.q .z (.q .z .z)) .z)) .z) .z)) (.q .z (.b [8, 9] (.q .z (.c (.q .z .z) (.q .z (.c (.q .z .z) (.q .z .z))))))))))))))⟩
theorem q315 (fu : Nat) (cf : CF) (a0 a1 a2 a3 : V) (h : H) (n : Id) (k : KV) : evF fu cf e315 [a0, a1, a2, a3] h n k = s315 fu cf a0 a1 a2 a3 h n k := by kernel_rfl
theorem p315 : PfOk Tryz.prog tbx mtab 315 (w4 (s315 fuX)) := pfo e315 Tryz.func315 (by kernel_rfl) (w4_ok (q315 fuX))
end Go.Proofs.Nw.X
end
