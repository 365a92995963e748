/- Bundle 12: NwXI3. -/
import Derived.Test.YtbooikopklijdaaGreatDoorNwG11
set_option linter.constructorNameAsVariable false
set_option linter.unusedVariables false
set_option linter.unusedSimpArgs false
set_option linter.unusedSectionVars false
section
/- printed by xg.py: seat F's functions, 3. -/
open Go Go.RowKit Go.Proofs
set_option maxRecDepth 100000
namespace Go.Proofs.Nw.X
open Go.Proofs.Nw.K
noncomputable def s107 (fu : Nat) (cf : CF) (a0 a1 : V) (h : H) (n : Id) (k : KV) : R :=
 evBox a1 h n fun v1 h n =>
 evAlloc tbx 32 h n fun v2 h n =>
 evNc' a0 fun v3 => evFa tbx 122 0 v3 fun v4 => evLoad tbx 27 v4 h fun v5 => evLoad tbx 24 v1 h fun v6 => evLoad tbx 27 v4 h fun w67 => cond (eqV 6 w67 v5) ( evLoad tbx 24 v1 h fun w66 => cond (eqV 6 w66 v6) (
 cf 20 [v5, v6] h n fun v7 h n => evExt 0 v7 fun v8 => evExt 1 v7 fun v9 => evBin2 tbx .neq 33 v9 (.i .i64 0) fun v10 =>
 brB v10 (
 evBuild tbx 32 [] fun v11 =>
 evStore tbx 32 v2 v11 h n fun _ h n => evLoad tbx 32 v2 h fun v12 =>
 k (.tp [v12, v9]) h n) ( evLoad tbx 24 v1 h fun v13 =>
 cf 161 [v13, v8] h n fun v14 h n => evExt 0 v14 fun v15 => evExt 1 v14 fun v16 =>
 evAlloc tbx 32 h n fun v17 h n =>
 evStore tbx 32 v17 v15 h n fun _ h n => evBin2 tbx .neq 33 v16 (.i .i64 0) fun v18 =>
 brB v18 (
 evBuild tbx 32 [] fun v19 =>
 evStore tbx 32 v2 v19 h n fun _ h n => evLoad tbx 32 v2 h fun v20 =>
 k (.tp [v20, v16]) h n) ( evLoad tbx 24 v1 h fun v21 => evFa tbx 32 5 v17 fun v22 => evLoad tbx 29 v22 h fun v23 =>
 cf 163 [v21, v23] h n fun v24 h n =>
 cf 162 [v24] h n fun v25 h n => evFa tbx 32 5 v17 fun v26 => evLoad tbx 29 v26 h fun v27 =>
 cf 164 [v25, v27] h n fun v28 h n => evExt 0 v28 fun v29 => evExt 1 v28 fun v30 => evFa tbx 32 5 v17 fun v31 =>
 evStore tbx 29 v31 v29 h n fun _ h n => evBin2 tbx .neq 33 v30 (.i .i64 0) fun v32 =>
 brB v32 (
 evBuild tbx 32 [] fun v33 =>
 evStore tbx 32 v2 v33 h n fun _ h n => evLoad tbx 32 v2 h fun v34 =>
 k (.tp [v34, v30]) h n) ( evFa tbx 32 4 v17 fun v35 =>
 evBuildSl tbx 278 1 [(0, v35)] h n fun v36 h n =>
 cf 165 [v25, v36] h n fun v37 h n => evBin2 tbx .neq 33 v37 (.i .i64 0) fun v38 =>
 brB v38 (
 evBuild tbx 32 [] fun v39 =>
 evStore tbx 32 v2 v39 h n fun _ h n => evLoad tbx 32 v2 h fun v40 =>
 k (.tp [v40, v37]) h n) ( evFa tbx 32 4 v17 fun v41 => evLoad tbx 9 v41 h fun v42 =>
 evBuildSl tbx 71 2 [(0, v42), (1, (.s 3 6971762))] h n fun v43 h n =>
 cf 42 [v43] h n fun v44 h n => evFa tbx 32 4 v17 fun v45 =>
 evStore tbx 9 v45 v44 h n fun _ h n => evFa tbx 32 6 v17 fun v46 => evLoad tbx 30 v46 h fun v47 =>
 cf 166 [v25, v47, (.b true)] h n fun v48 h n => evExt 0 v48 fun v49 => evExt 1 v48 fun v50 => evFa tbx 32 6 v17 fun v51 =>
 evStore tbx 30 v51 v49 h n fun _ h n => evBin2 tbx .neq 33 v50 (.i .i64 0) fun v52 =>
 brB v52 (
 evBuild tbx 32 [] fun v53 =>
 evStore tbx 32 v2 v53 h n fun _ h n => evLoad tbx 32 v2 h fun v54 =>
 k (.tp [v54, v50]) h n) ( evFa tbx 32 7 v17 fun v55 => evLoad tbx 30 v55 h fun v56 =>
 cf 166 [v25, v56, (.b false)] h n fun v57 h n => evExt 0 v57 fun v58 => evExt 1 v57 fun v59 => evFa tbx 32 7 v17 fun v60 =>
 evStore tbx 30 v60 v58 h n fun _ h n => evBin2 tbx .neq 33 v59 (.i .i64 0) fun v61 =>
 brB v61 (
 evBuild tbx 32 [] fun v62 =>
 evStore tbx 32 v2 v62 h n fun _ h n => evLoad tbx 32 v2 h fun v63 =>
 k (.tp [v63, v59]) h n) ( evLoad tbx 32 v17 h fun v64 =>
 evStore tbx 32 v2 v64 h n fun _ h n => evLoad tbx 32 v2 h fun v65 =>
 k (.tp [v65, (.i .i64 0)]) h n))))))) none) none
noncomputable def e107 : FE := ⟨Tryz.f107, bd Tryz.f107, [0, 1], [4, 5], (.q .z (.q .z (.q (.q .z (.c (.q .z .z) .z)) (.q .z (.q (.q .z (.c (.q .z .z) .z)) (.q .z (.q (.q .z (.q .z (.c (.q .z .z) .z))) (.q (.q .z (.q .z (.c (.q .z .z) .z))) (.q .z (.q (.q .z (.q .z (.c (.q .z .z) .z))) (.q (.q .z (.q .z (.c (.q .z .z) .z))) (.q .z .z))))))))))))⟩
theorem q107 (fu : Nat) (cf : CF) (a0 a1 : V) (h : H) (n : Id) (k : KV) : evF fu cf e107 [a0, a1] h n k = s107 fu cf a0 a1 h n k := by kernel_rfl
theorem p107 : PfOk Tryz.prog tbx mtab 107 (w2 (s107 fuX)) := pfo e107 Tryz.func107 (by kernel_rfl) (w2_ok (q107 fuX))
noncomputable def s108 (fu : Nat) (cf : CF) (a0 a1 a2 : V) (h : H) (n : Id) (k : KV) : R :=
 cf 112 [a1] h n fun v1 h n =>
 cf 167 [v1, (.fn 168 [])] h n fun v2 h n =>
 evLen tbx 30 a1 fun v3 =>
 jp (fun (s4 : VT [9, 10]) h n => pc s4 fun v6 s7 => pc s7 fun v8 s9 =>
 cf 110 [v6] h n fun v10 h n =>
 evLen tbx 30 v10 fun v11 => evBin2 tbx .gtr 3 v11 (.i .i64 200) fun v12 =>
 brB v12 (
 k (.tp [.ns, (.i .i64 0), (.i .i64 3)]) h n) (
 k (.tp [v10, v8, (.i .i64 0)]) h n)) fun kk5 =>
 lpC [0, 2, 9, 10, 18, 19, 20] (fun lo14 s13 h n => pc s13 fun v15 s16 => pc s16 fun v17 s18 => pc s18 fun v19 s20 => pc s20 fun v21 s22 => pc s22 fun v23 s24 => pc s24 fun v25 s26 => pc s26 fun v27 s28 => evBin2 tbx .lss 3 v27 v25 fun v29 =>
 brB v29 (
 jp (fun (s30 : VT [0, 2, 9, 10, 18, 19, 20]) h n => pc s30 fun v32 s33 => pc s33 fun v34 s35 => pc s35 fun v36 s37 => pc s37 fun v38 s39 => pc s39 fun v40 s41 => pc s41 fun v42 s43 => pc s43 fun v44 s45 => evBin2 tbx .add 3 v44 (.i .i64 1) fun v46 =>
 lo14 (v32, v34, v36, v38, v40, v42, v46, ()) h n) fun kk31 => evIa tbx 30 v23 v27 fun v47 => evLoad tbx 51 v47 h fun v48 =>
 evAlloc tbx 51 h n fun v49 h n =>
 evStore tbx 51 v49 v48 h n fun _ h n => evLoad tbx 51 v49 h fun v50 =>
 cf 168 [v50] h n fun v51 h n =>
 evUn .not v51 fun v52 =>
 brB v52 (
 kk31 (v15, v17, v19, v21, v23, v25, v27, ()) h n) ( evFa tbx 51 0 v49 fun v53 => evLoad tbx 9 v53 h fun v54 => evFa tbx 51 1 v49 fun v55 => evLoad tbx 9 v55 h fun v56 => evFa tbx 51 2 v49 fun v57 => evLoad tbx 9 v57 h fun v58 =>
 evBuild tbx 24 [(0, v54), (1, v56), (2, v58)] fun v59 =>
 cf 65 [v15, v59, v17] h n fun v60 h n => evExt 0 v60 fun v61 => evExt 1 v60 fun v62 =>
 evAlloc tbx 124 h n fun v63 h n =>
 evStore tbx 124 v63 v61 h n fun _ h n => evBin2 tbx .neq 33 v62 (.i .i64 0) fun v64 =>
 brB v64 (
 k (.tp [.ns, (.i .i64 0), v62]) h n) ( evFa tbx 124 0 v63 fun v65 => evFa tbx 32 6 v65 fun v66 => evLoad tbx 30 v66 h fun v67 => evFa tbx 124 1 v63 fun v68 => evLoad tbx 3 v68 h fun v69 => evBin2 tbx .add 3 v69 (.i .i64 1) fun v70 =>
 evMax v21 v70 fun v71 => evLoad tbx 30 v66 h fun w75 => cond (eqV 6 w75 v67) ( evLoad tbx 3 v68 h fun w74 => cond (eqV 6 w74 v69) (
 evApp tbx 30 30 v19 v67 h n fun v72 h n => evLoad tbx 3 v68 h fun w73 => cond (eqV 6 w73 v69) (
 kk31 (v15, v17, v72, v71, v23, v25, v27, ()) h n) none) none) none))) (
 kk5 (v19, v21, ()) h n)) fu (a0, a2, v2, (.i .i64 0), a1, v3, (.i .i64 0), ()) h n
noncomputable def e108 : FE := ⟨Tryz.f108, bd Tryz.f108, [0, 1, 2], [6, 7, 8], (.q .z (.q .z (.q .z (.q (.q .z (.b [9, 10] (.l [0, 2, 9, 10, 18, 19, 20] (.q .z (.q (.c .z .z) (.q (.b [0, 2, 9, 10, 18, 19, 20] (.q .z (.q (.q .z (.c .z .z)) (.q .z (.q (.q .z (.c (.q .z .z) .z)) .z))))) .z)))))) (.q .z (.q (.q .z (.c (.q .z .z) .z)) (.q .z .z)))))))⟩
theorem q108 (fu : Nat) (cf : CF) (a0 a1 a2 : V) (h : H) (n : Id) (k : KV) : evF fu cf e108 [a0, a1, a2] h n k = s108 fu cf a0 a1 a2 h n k := by kernel_rfl
theorem p108 : PfOk Tryz.prog tbx mtab 108 (w3 (s108 fuX)) := pfo e108 Tryz.func108 (by kernel_rfl) (w3_ok (q108 fuX))
noncomputable def s109 (fu : Nat) (cf : CF) (a0 : V) (h : H) (n : Id) (k : KV) : R :=
 evBin2 tbx .eql 79 a0 .ns fun v1 =>
 brB v1 (
 k .ns h n) (
 evBuildSl tbx 79 0 [] h n fun v2 h n =>
 evApp tbx 79 79 v2 a0 h n fun v3 h n =>
 k v3 h n)
noncomputable def e109 : FE := ⟨Tryz.f109, bd Tryz.f109, [0], [2], (.q .z (.q (.q .z (.c (.q .z .z) .z)) (.q .z .z)))⟩
theorem q109 (fu : Nat) (cf : CF) (a0 : V) (h : H) (n : Id) (k : KV) : evF fu cf e109 [a0] h n k = s109 fu cf a0 h n k := by kernel_rfl
theorem p109 : PfOk Tryz.prog tbx mtab 109 (w1 (s109 fuX)) := pfo e109 Tryz.func109 (by kernel_rfl) (w1_ok (q109 fuX))
noncomputable def s110 (fu : Nat) (cf : CF) (a0 : V) (h : H) (n : Id) (k : KV) : R :=
 evMkMap h n fun v1 h n =>
 evAlloc tbx 227 h n fun v2 h n =>
 evStore tbx 227 v2 v1 h n fun _ h n =>
 cf 112 [a0] h n fun v3 h n =>
 let v4 : V := (.fn 169 [v2])
 cf 167 [v3, v4] h n fun v5 h n =>
 k v5 h n
noncomputable def e110 : FE := ⟨Tryz.f110, bd Tryz.f110, [0], [2], (.q .z (.q .z (.q .z .z)))⟩
theorem q110 (fu : Nat) (cf : CF) (a0 : V) (h : H) (n : Id) (k : KV) : evF fu cf e110 [a0] h n k = s110 fu cf a0 h n k := by kernel_rfl
theorem p110 : PfOk Tryz.prog tbx mtab 110 (w1 (s110 fuX)) := pfo e110 Tryz.func110 (by kernel_rfl) (w1_ok (q110 fuX))
noncomputable def s111 (fu : Nat) (cf : CF) (a0 a1 : V) (h : H) (n : Id) (k : KV) : R :=
 evBox a0 h n fun v1 h n =>
 evAlloc tbx 51 h n fun v2 h n => evFa tbx 51 7 v1 fun v3 => evLoad tbx 49 v3 h fun v4 =>
 cf 113 [v4] h n fun v5 h n => evFa tbx 51 7 v1 fun v6 =>
 evStore tbx 49 v6 v5 h n fun _ h n =>
 jp (fun (s7 : VT [2, 4]) h n => pc s7 fun v9 s10 => pc s10 fun v11 s12 => evLoad tbx 51 v9 h fun v13 =>
 evStore tbx 51 v11 v13 h n fun _ h n => evLoad tbx 51 v11 h fun v14 =>
 k v14 h n) fun kk8 => evLoad tbx 51 v1 h fun v15 =>
 cf 46 [v15] h n fun v16 h n =>
 cf 170 [a1, v16] h n fun v17 h n => evExt 0 v17 fun v18 => evExt 1 v17 fun v19 =>
 evAlloc tbx 51 h n fun v20 h n =>
 evStore tbx 51 v20 v18 h n fun _ h n =>
 brB v19 ( evFa tbx 51 2 v1 fun v21 => evLoad tbx 9 v21 h fun v22 => evFa tbx 51 2 v20 fun v23 => evLoad tbx 9 v23 h fun v24 =>
 alB n fun n' => sliA tbx 71 2 [(0, v22), (1, v24)] fun x mk => 
 (fun (v25 : V) h n => evFa tbx 51 5 v1 fun v26 => evLoad tbx 9 v26 h fun v27 => evFa tbx 51 5 v20 fun v28 => evLoad tbx 9 v28 h fun v29 =>
 alB n fun n' => sliA tbx 71 2 [(0, v27), (1, v29)] fun x mk => 
 (fun (v30 : V) h n => evLoad tbx 9 v21 h fun w47 => cond (eqV 6 w47 v22) ( evLoad tbx 9 v23 h fun w46 => cond (eqV 6 w46 v24) (
 ckO (vId v25) h fun id x' => sliA tbx 71 2 [(0, v22), (1, v24)] fun x mk => cond (eqO x' x) (cond (eqV 6 (mk id) v25) ( evLoad tbx 9 v26 h fun w45 => cond (eqV 6 w45 v27) ( evLoad tbx 9 v28 h fun w44 => cond (eqV 6 w44 v29) (
 ckO (vId v30) h fun id x' => sliA tbx 71 2 [(0, v27), (1, v29)] fun x mk => cond (eqO x' x) (cond (eqV 6 (mk id) v30) (
 cf 42 [v25] h n fun v31 h n => evFa tbx 51 2 v1 fun v32 => evLoad tbx 9 v26 h fun w43 => cond (eqV 6 w43 v27) ( evLoad tbx 9 v28 h fun w42 => cond (eqV 6 w42 v29) (
 ckO (vId v30) h fun id x' => sliA tbx 71 2 [(0, v27), (1, v29)] fun x mk => cond (eqO x' x) (cond (eqV 6 (mk id) v30) (
 cf 42 [v30] h n fun v33 h n =>
 evStore tbx 9 v32 v31 h n fun _ h n => evFa tbx 51 5 v1 fun v34 =>
 evStore tbx 9 v34 v33 h n fun _ h n => evFa tbx 51 7 v1 fun v35 => evLoad tbx 49 v35 h fun v36 =>
 evLen tbx 49 v36 fun v37 => evBin2 tbx .eql 3 v37 (.i .i64 0) fun v38 =>
 brB v38 ( evFa tbx 51 7 v20 fun v39 => evLoad tbx 49 v39 h fun v40 => evFa tbx 51 7 v1 fun v41 =>
 evStore tbx 49 v41 v40 h n fun _ h n =>
 kk8 (v1, v2, ()) h n) (
 kk8 (v1, v2, ()) h n)) none) none) none) none) none) none) none) none) none) none) none) none) (mk n) (hset x n h) n') (mk n) (hset x n h) n') (
 kk8 (v1, v2, ()) h n)
noncomputable def e111 : FE := ⟨Tryz.f111, bd Tryz.f111, [0, 1], [4], (.q .z (.q .z (.s [2, 4] (.q .z (.q .z (.c (.q .z (.q .z (.c .z .z))) .z))) (.q .z .z))))⟩
theorem q111 (fu : Nat) (cf : CF) (a0 a1 : V) (h : H) (n : Id) (k : KV) : evF fu cf e111 [a0, a1] h n k = s111 fu cf a0 a1 h n k := by kernel_rfl
theorem p111 : PfOk Tryz.prog tbx mtab 111 (w2 (s111 fuX)) := pfo e111 Tryz.func111 (by kernel_rfl) (w2_ok (q111 fuX))
noncomputable def s112 (fu : Nat) (cf : CF) (a0 : V) (h : H) (n : Id) (k : KV) : R :=
 evBin2 tbx .eql 30 a0 .ns fun v1 =>
 brB v1 (
 k .ns h n) (
 evBuildSl tbx 30 0 [] h n fun v2 h n =>
 evApp tbx 30 30 v2 a0 h n fun v3 h n =>
 k v3 h n)
noncomputable def e112 : FE := ⟨Tryz.f112, bd Tryz.f112, [0], [2], (.q .z (.q (.q .z (.c (.q .z .z) .z)) (.q .z .z)))⟩
theorem q112 (fu : Nat) (cf : CF) (a0 : V) (h : H) (n : Id) (k : KV) : evF fu cf e112 [a0] h n k = s112 fu cf a0 h n k := by kernel_rfl
theorem p112 : PfOk Tryz.prog tbx mtab 112 (w1 (s112 fuX)) := pfo e112 Tryz.func112 (by kernel_rfl) (w1_ok (q112 fuX))
noncomputable def s113 (fu : Nat) (cf : CF) (a0 : V) (h : H) (n : Id) (k : KV) : R :=
 evBin2 tbx .eql 49 a0 .ns fun v1 =>
 brB v1 (
 k .ns h n) (
 evBuildSl tbx 49 0 [] h n fun v2 h n =>
 evApp tbx 49 49 v2 a0 h n fun v3 h n =>
 k v3 h n)
noncomputable def e113 : FE := ⟨Tryz.f113, bd Tryz.f113, [0], [2], (.q .z (.q (.q .z (.c (.q .z .z) .z)) (.q .z .z)))⟩
theorem q113 (fu : Nat) (cf : CF) (a0 : V) (h : H) (n : Id) (k : KV) : evF fu cf e113 [a0] h n k = s113 fu cf a0 h n k := by kernel_rfl
theorem p113 : PfOk Tryz.prog tbx mtab 113 (w1 (s113 fuX)) := pfo e113 Tryz.func113 (by kernel_rfl) (w1_ok (q113 fuX))
noncomputable def s114 (fu : Nat) (cf : CF) (a0 : V) (h : H) (n : Id) (k : KV) : R :=
 cf 171 [a0, (.s 1 91)] h n fun v1 h n =>
 jp (fun (v2 : V) h n =>
 jp (fun (v4 : V) h n => evPick v1 (.b true) v4 fun v6 =>
 k v6 h n) fun kk5 =>
 gdB v1 false ((cf 171 [v2, (.s 1 40)] h n kk5)) (kk5 (.tp []) h n)) fun kk3 =>
 gdB v1 false (kk3 a0 h n) (kk3 (.tp []) h n)
noncomputable def e114 : FE := ⟨Tryz.f114, bd Tryz.f114, [0], [2], (.q .z (.q .z .z))⟩
theorem q114 (fu : Nat) (cf : CF) (a0 : V) (h : H) (n : Id) (k : KV) : evF fu cf e114 [a0] h n k = s114 fu cf a0 h n k := by kernel_rfl
theorem p114 : PfOk Tryz.prog tbx mtab 114 (w1 (s114 fuX)) := pfo e114 Tryz.func114 (by kernel_rfl) (w1_ok (q114 fuX))
noncomputable def s115 (fu : Nat) (cf : CF) (a0 : V) (h : H) (n : Id) (k : KV) : R :=
 jp (fun (s3 : VT [2, 3]) h n => pc s3 fun v6 s7 => pc s7 fun v8 s9 =>
 k (.tp [v6, v8]) h n) fun kk1 =>
 jp (lpC [0, 4] (fun lo5 s4 h n => pc s4 fun v10 s11 => pc s11 fun v12 s13 =>
 cf 172 [v10] h n fun v14 h n => evExt 0 v14 fun v15 => evExt 1 v14 fun v16 => evExt 2 v14 fun v17 =>
 evAlloc tbx 250 h n fun v18 h n =>
 evStore tbx 250 v18 v15 h n fun _ h n =>
 evUn .not v17 fun v19 =>
 jp (fun (v20 : V) h n =>
 jp (fun (v22 : V) h n =>
 jp (fun (v24 : V) h n => evPick v19 (.b true) v24 fun v26 =>
 jp (fun (v27 : V) h n =>
 jp (fun (v29 : V) h n =>
 jp (fun (v31 : V) h n =>
 jp (fun (v33 : V) h n =>
 jp (fun (v35 : V) h n =>
 jp (fun (v37 : V) h n =>
 jp (fun (v39 : V) h n =>
 jp (fun (v41 : V) h n =>
 jp (fun (v43 : V) h n =>
 jp (fun (v45 : V) h n =>
 jp (fun (v47 : V) h n =>
 thenR (wsB (wV v33 true) (evLoad tbx 250 v43 h fun w49 => cond (eqV 6 w49 v45) (okR) none) (cond (eqV 2 v45 (.tp [])) okR none)) (
 thenR (wsB (wV v33 true) (evLoad tbx 250 v18 h fun w50 => cond (eqV 6 w50 v47) (okR) none) (cond (eqV 2 v47 (.tp [])) okR none)) (
 jp (fun (v51 : V) h n =>
 jp (fun (v53 : V) h n =>
 jp (fun (v55 : V) h n => evPick v26 (.b true) v55 fun v57 =>
 brB v57 (
 k (.tp [.ns, (.i .i64 12)]) h n) ( evLoad tbx 250 v18 h fun v58 =>
 evBuildSl tbx 185 1 [(0, v58)] h n fun v59 h n =>
 evApp tbx 185 185 v12 v59 h n fun v60 h n => evBin2 tbx .eql 9 v16 (.s 0 0) fun v61 =>
 brB v61 (
 k (.tp [v60, (.i .i64 0)]) h n) (
 cf 174 [v16, (.s 1 44)] h n fun v62 h n => evExt 0 v62 fun v63 => evExt 1 v62 fun v64 =>
 evUn .not v64 fun v65 =>
 brB v65 (
 k (.tp [.ns, (.i .i64 12)]) h n) (
 lo5 (v63, v60, ()) h n)))) fun kk56 =>
 wsB (wV v26 false) ((evPick v33 v53 (.b false) fun v => kk56 v h n)) (kk56 (.tp []) h n)) fun kk54 =>
 wsB (wV v33 true) ((evUn .not v51 fun v => kk54 v h n)) (kk54 (.tp []) h n)) fun kk52 =>
 wsB (wV v33 true) ((cf 173 [v45, v47] h n kk52)) (kk52 (.tp []) h n)))) fun kk48 =>
 wsB (wV v33 true) ((evLoad tbx 250 v18 h fun v => kk48 v h n)) (kk48 (.tp []) h n)) fun kk46 =>
 wsB (wV v33 true) ((evLoad tbx 250 v43 h fun v => kk46 v h n)) (kk46 (.tp []) h n)) fun kk44 =>
 wsB (wV v33 true) ((evIa tbx 185 v35 v41 fun v => kk44 v h n)) (kk44 (.tp []) h n)) fun kk42 =>
 wsB (wV v33 true) ((evBin2 tbx .sub 3 v39 (.i .i64 1) fun v => kk42 v h n)) (kk42 (.tp []) h n)) fun kk40 =>
 wsB (wV v33 true) ((evLen tbx 185 v37 fun v => kk40 v h n)) (kk40 (.tp []) h n)) fun kk38 =>
 wsB (wV v33 true) (kk38 v12 h n) (kk38 (.tp []) h n)) fun kk36 =>
 wsB (wV v33 true) (kk36 v12 h n) (kk36 (.tp []) h n)) fun kk34 =>
 wsB (wV v26 false) (kk34 v31 h n) (kk34 (.tp []) h n)) fun kk32 =>
 wsB (wV v26 false) ((evBin2 tbx .gtr 3 v29 (.i .i64 0) fun v => kk32 v h n)) (kk32 (.tp []) h n)) fun kk30 =>
 wsB (wV v26 false) ((evLen tbx 185 v27 fun v => kk30 v h n)) (kk30 (.tp []) h n)) fun kk28 =>
 wsB (wV v26 false) (kk28 v12 h n) (kk28 (.tp []) h n)) fun kk25 =>
 wsB (wV v19 false) ((evBin2 tbx .geq 3 v22 (.i .i64 20) fun v => kk25 v h n)) (kk25 (.tp []) h n)) fun kk23 =>
 wsB (wV v19 false) ((evLen tbx 185 v20 fun v => kk23 v h n)) (kk23 (.tp []) h n)) fun kk21 =>
 wsB (wV v19 false) (kk21 v12 h n) (kk21 (.tp []) h n)) fu) fun lo2 =>
 cf 172 [a0] h n fun v66 h n => evExt 0 v66 fun v67 => evExt 1 v66 fun v68 => evExt 2 v66 fun v69 =>
 evAlloc tbx 250 h n fun v70 h n =>
 evStore tbx 250 v70 v67 h n fun _ h n =>
 evUn .not v69 fun v71 =>
 jp (fun (v72 : V) h n =>
 jp (fun (v74 : V) h n =>
 jp (fun (v76 : V) h n => evPick v71 (.b true) v76 fun v78 =>
 jp (fun (v79 : V) h n =>
 jp (fun (v81 : V) h n =>
 jp (fun (v83 : V) h n =>
 jp (fun (v85 : V) h n =>
 jp (fun (v87 : V) h n =>
 jp (fun (v89 : V) h n =>
 jp (fun (v91 : V) h n =>
 jp (fun (v93 : V) h n =>
 jp (fun (v95 : V) h n =>
 jp (fun (v97 : V) h n =>
 jp (fun (v99 : V) h n =>
 thenR (wsB (wV v85 true) (evLoad tbx 250 v95 h fun w101 => cond (eqV 6 w101 v97) (okR) none) (cond (eqV 2 v97 (.tp [])) okR none)) (
 thenR (wsB (wV v85 true) (evLoad tbx 250 v70 h fun w102 => cond (eqV 6 w102 v99) (okR) none) (cond (eqV 2 v99 (.tp [])) okR none)) (
 jp (fun (v103 : V) h n =>
 jp (fun (v105 : V) h n =>
 jp (fun (v107 : V) h n => evPick v78 (.b true) v107 fun v109 =>
 brB v109 (
 k (.tp [.ns, (.i .i64 12)]) h n) ( evLoad tbx 250 v70 h fun v110 =>
 evBuildSl tbx 185 1 [(0, v110)] h n fun v111 h n =>
 evApp tbx 185 185 .ns v111 h n fun v112 h n => evBin2 tbx .eql 9 v68 (.s 0 0) fun v113 =>
 brB v113 (
 k (.tp [v112, (.i .i64 0)]) h n) (
 cf 174 [v68, (.s 1 44)] h n fun v114 h n => evExt 0 v114 fun v115 => evExt 1 v114 fun v116 =>
 evUn .not v116 fun v117 =>
 brB v117 (
 k (.tp [.ns, (.i .i64 12)]) h n) (
 lo2 (v115, v112, ()) h n)))) fun kk108 =>
 wsB (wV v78 false) ((evPick v85 v105 (.b false) fun v => kk108 v h n)) (kk108 (.tp []) h n)) fun kk106 =>
 wsB (wV v85 true) ((evUn .not v103 fun v => kk106 v h n)) (kk106 (.tp []) h n)) fun kk104 =>
 wsB (wV v85 true) ((cf 173 [v97, v99] h n kk104)) (kk104 (.tp []) h n)))) fun kk100 =>
 wsB (wV v85 true) ((evLoad tbx 250 v70 h fun v => kk100 v h n)) (kk100 (.tp []) h n)) fun kk98 =>
 wsB (wV v85 true) ((evLoad tbx 250 v95 h fun v => kk98 v h n)) (kk98 (.tp []) h n)) fun kk96 =>
 wsB (wV v85 true) ((evIa tbx 185 v87 v93 fun v => kk96 v h n)) (kk96 (.tp []) h n)) fun kk94 =>
 wsB (wV v85 true) ((evBin2 tbx .sub 3 v91 (.i .i64 1) fun v => kk94 v h n)) (kk94 (.tp []) h n)) fun kk92 =>
 wsB (wV v85 true) ((evLen tbx 185 v89 fun v => kk92 v h n)) (kk92 (.tp []) h n)) fun kk90 =>
 wsB (wV v85 true) (kk90 .ns h n) (kk90 (.tp []) h n)) fun kk88 =>
 wsB (wV v85 true) (kk88 .ns h n) (kk88 (.tp []) h n)) fun kk86 =>
 wsB (wV v78 false) (kk86 v83 h n) (kk86 (.tp []) h n)) fun kk84 =>
 wsB (wV v78 false) ((evBin2 tbx .gtr 3 v81 (.i .i64 0) fun v => kk84 v h n)) (kk84 (.tp []) h n)) fun kk82 =>
 wsB (wV v78 false) ((evLen tbx 185 v79 fun v => kk82 v h n)) (kk82 (.tp []) h n)) fun kk80 =>
 wsB (wV v78 false) (kk80 .ns h n) (kk80 (.tp []) h n)) fun kk77 =>
 wsB (wV v71 false) ((evBin2 tbx .geq 3 v74 (.i .i64 20) fun v => kk77 v h n)) (kk77 (.tp []) h n)) fun kk75 =>
 wsB (wV v71 false) ((evLen tbx 185 v72 fun v => kk75 v h n)) (kk75 (.tp []) h n)) fun kk73 =>
 wsB (wV v71 false) (kk73 .ns h n) (kk73 (.tp []) h n)
noncomputable def e115 : FE := ⟨Tryz.f115, bd Tryz.f115, [0], [2, 3], (.q .z (.g 0 [0, 4] [2, 3] (.q .z (.q .z (.q .z (.q (.q .z (.c (.q .z .z) .z)) (.q .z (.q (.q .z (.c (.q .z .z) .z)) (.q .z (.q (.q .z (.c (.q .z .z) .z)) (.q .z .z))))))))) (.q .z (.q .z (.q (.q .z (.c (.q .z .z) .z)) (.q .z (.q (.q .z (.c (.q .z .z) .z)) (.q .z (.q (.q .z (.c (.q .z .z) .z)) (.q .z .z))))))))))⟩
theorem q115 (fu : Nat) (cf : CF) (a0 : V) (h : H) (n : Id) (k : KV) : evF fu cf e115 [a0] h n k = s115 fu cf a0 h n k := by kernel_rfl
theorem p115 : PfOk Tryz.prog tbx mtab 115 (w1 (s115 fuX)) := pfo e115 Tryz.func115 (by kernel_rfl) (w1_ok (q115 fuX))
noncomputable def s123 (fu : Nat) (cf : CF) (a0 : V) (h : H) (n : Id) (k : KV) : R :=
 evBin2 tbx .geq 5 a0 (.i .u8 48) fun v1 =>
 jp (fun (v2 : V) h n =>
 jp (fun (v4 : V) h n => evPick v1 v4 (.b false) fun v6 =>
 k v6 h n) fun kk5 =>
 gdB v1 true ((evBin2 tbx .leq 5 v2 (.i .u8 57) fun v => kk5 v h n)) (kk5 (.tp []) h n)) fun kk3 =>
 gdB v1 true (kk3 a0 h n) (kk3 (.tp []) h n)
noncomputable def e123 : FE := ⟨Tryz.f123, bd Tryz.f123, [0], [2], (.q .z (.q .z .z))⟩
theorem q123 (fu : Nat) (cf : CF) (a0 : V) (h : H) (n : Id) (k : KV) : evF fu cf e123 [a0] h n k = s123 fu cf a0 h n k := by kernel_rfl
theorem p123 : PfOk Tryz.prog tbx mtab 123 (w1 (s123 fuX)) := pfo e123 Tryz.func123 (by kernel_rfl) (w1_ok (q123 fuX))
noncomputable def s124 (fu : Nat) (cf : CF) (a0 : V) (h : H) (n : Id) (k : KV) : R :=
 evBin2 tbx .eql 5 a0 (.i .u8 9) fun v1 =>
 jp (fun (v2 : V) h n =>
 jp (fun (v4 : V) h n => evPick v1 (.b true) v4 fun v6 =>
 jp (fun (v7 : V) h n =>
 jp (fun (v9 : V) h n => evPick v6 (.b true) v9 fun v11 =>
 jp (fun (v12 : V) h n =>
 jp (fun (v14 : V) h n => evPick v11 (.b true) v14 fun v16 =>
 k v16 h n) fun kk15 =>
 gdB v11 false ((evBin2 tbx .eql 5 v12 (.i .u8 32) fun v => kk15 v h n)) (kk15 (.tp []) h n)) fun kk13 =>
 gdB v11 false (kk13 a0 h n) (kk13 (.tp []) h n)) fun kk10 =>
 gdB v6 false ((evBin2 tbx .eql 5 v7 (.i .u8 13) fun v => kk10 v h n)) (kk10 (.tp []) h n)) fun kk8 =>
 gdB v6 false (kk8 a0 h n) (kk8 (.tp []) h n)) fun kk5 =>
 gdB v1 false ((evBin2 tbx .eql 5 v2 (.i .u8 10) fun v => kk5 v h n)) (kk5 (.tp []) h n)) fun kk3 =>
 gdB v1 false (kk3 a0 h n) (kk3 (.tp []) h n)
noncomputable def e124 : FE := ⟨Tryz.f124, bd Tryz.f124, [0], [2], (.q .z (.q .z .z))⟩
theorem q124 (fu : Nat) (cf : CF) (a0 : V) (h : H) (n : Id) (k : KV) : evF fu cf e124 [a0] h n k = s124 fu cf a0 h n k := by kernel_rfl
theorem p124 : PfOk Tryz.prog tbx mtab 124 (w1 (s124 fuX)) := pfo e124 Tryz.func124 (by kernel_rfl) (w1_ok (q124 fuX))
noncomputable def s129 (fu : Nat) (cf : CF) (a0 a1 a2 a3 a4 a5 : V) (h : H) (n : Id) (k : KV) : R :=
 cf 186 [a0, a1, a2, a4, a5] h n fun v1 h n => evExt 0 v1 fun v2 => evExt 1 v1 fun v3 =>
 cf 186 [a0, v3, a3, a4, a5] h n fun v4 h n => evExt 0 v4 fun v5 => evExt 1 v4 fun v6 =>
 cf 186 [a0, v2, v5, a4, a5] h n fun v7 h n => evExt 0 v7 fun v8 => evExt 1 v7 fun v9 =>
 k v9 h n
noncomputable def e129 : FE := ⟨Tryz.f129, bd Tryz.f129, [0, 1, 2, 3, 4, 5], [12], (.q .z (.q .z (.q .z (.q .z (.q .z .z)))))⟩
theorem q129 (fu : Nat) (cf : CF) (a0 a1 a2 a3 a4 a5 : V) (h : H) (n : Id) (k : KV) : evF fu cf e129 [a0, a1, a2, a3, a4, a5] h n k = s129 fu cf a0 a1 a2 a3 a4 a5 h n k := by kernel_rfl
theorem p129 : PfOk Tryz.prog tbx mtab 129 (w6 (s129 fuX)) := pfo e129 Tryz.func129 (by kernel_rfl) (w6_ok (q129 fuX))
noncomputable def s130 (fu : Nat) (cf : CF) (a0 a1 : V) (h : H) (n : Id) (k : KV) : R :=
 evBox a0 h n fun v1 h n =>
 evBox a1 h n fun v2 h n => evFa tbx 203 0 v1 fun v3 => evLoad tbx 3 v3 h fun v4 => evFa tbx 203 0 v2 fun v5 => evLoad tbx 3 v5 h fun v6 =>
 cf 187 [v4, v6] h n fun v7 h n => evBin2 tbx .neq 3 v7 (.i .i64 0) fun v8 =>
 brB v8 (
 k v7 h n) ( evFa tbx 203 0 v1 fun v9 => evLoad tbx 3 v9 h fun v10 =>
 jp (fun (s11 : VT []) h n =>
 k (.i .i64 0) h n) fun kk12 => evBin2 tbx .eql 3 v10 (.i .i64 8) fun v13 =>
 brB v13 ( evFa tbx 203 1 v1 fun v14 => evLoad tbx 9 v14 h fun v15 => evFa tbx 203 1 v2 fun v16 => evLoad tbx 9 v16 h fun v17 =>
 cf 56 [v15, v17] h n fun v18 h n =>
 k v18 h n) (
 jp (fun (s19 : VT [2, 3, 23]) h n => pc s19 fun v21 s22 => pc s22 fun v23 s24 => pc s24 fun v25 s26 =>
 brB v25 ( evFa tbx 203 1 v21 fun v27 => evLoad tbx 9 v27 h fun v28 =>
 evLen tbx 9 v28 fun v29 => evFa tbx 203 1 v23 fun v30 => evLoad tbx 9 v30 h fun v31 =>
 evLen tbx 9 v31 fun v32 => evFa tbx 203 1 v21 fun v33 => evLoad tbx 9 v33 h fun v34 => evFa tbx 203 1 v23 fun v35 => evLoad tbx 9 v35 h fun v36 => evLoad tbx 9 v27 h fun w46 => cond (eqV 6 w46 v28) ( evLoad tbx 9 v30 h fun w45 => cond (eqV 6 w45 v31) ( evLoad tbx 9 v33 h fun w44 => cond (eqV 6 w44 v34) ( evLoad tbx 9 v35 h fun w43 => cond (eqV 6 w43 v36) (
 cf 187 [v29, v32] h n fun v37 h n => evLoad tbx 9 v33 h fun w42 => cond (eqV 6 w42 v34) ( evLoad tbx 9 v35 h fun w41 => cond (eqV 6 w41 v36) (
 cf 56 [v34, v36] h n fun v38 h n =>
 evBuildSl tbx 149 2 [(0, v37), (1, v38)] h n fun v39 h n =>
 cf 55 [v39] h n fun v40 h n =>
 k v40 h n) none) none) none) none) none) none) (
 kk12 (()) h n)) fun kk20 => evBin2 tbx .eql 3 v10 (.i .i64 9) fun v47 =>
 brB v47 (
 kk20 (v1, v2, v47, ()) h n) ( evBin2 tbx .eql 3 v10 (.i .i64 10) fun v48 =>
 kk20 (v1, v2, v48, ()) h n)))
noncomputable def e130 : FE := ⟨Tryz.f130, bd Tryz.f130, [0, 1], [4], (.q .z (.q (.q .z (.q .z (.c (.q .z .z) .z))) (.q (.q .z (.b [] (.q .z (.c (.q .z .z) (.s [2, 3, 23] (.q .z (.c .z .z)) (.c (.q .z .z) .z)))))) (.q .z .z))))⟩
theorem q130 (fu : Nat) (cf : CF) (a0 a1 : V) (h : H) (n : Id) (k : KV) : evF fu cf e130 [a0, a1] h n k = s130 fu cf a0 a1 h n k := by kernel_rfl
theorem p130 : PfOk Tryz.prog tbx mtab 130 (w2 (s130 fuX)) := pfo e130 Tryz.func130 (by kernel_rfl) (w2_ok (q130 fuX))
noncomputable def s131 (fu : Nat) (cf : CF) (a0 a1 : V) (h : H) (n : Id) (k : KV) : R :=
 evAlloc tbx 203 h n fun v1 h n =>
 evLen tbx 151 a0 fun v2 => evBin2 tbx .lss 3 a1 v2 fun v3 =>
 brB v3 ( evIa tbx 151 a0 a1 fun v4 => evLoad tbx 203 v4 h fun v5 =>
 evStore tbx 203 v1 v5 h n fun _ h n => evLoad tbx 203 v1 h fun v6 =>
 k v6 h n) (
 evBuild tbx 203 [(0, (.i .i64 6))] fun v7 =>
 evStore tbx 203 v1 v7 h n fun _ h n => evLoad tbx 203 v1 h fun v8 =>
 k v8 h n)
noncomputable def e131 : FE := ⟨Tryz.f131, bd Tryz.f131, [0, 1], [4], (.q .z (.q (.q .z (.c (.q .z .z) .z)) (.q .z .z)))⟩
theorem q131 (fu : Nat) (cf : CF) (a0 a1 : V) (h : H) (n : Id) (k : KV) : evF fu cf e131 [a0, a1] h n k = s131 fu cf a0 a1 h n k := by kernel_rfl
theorem p131 : PfOk Tryz.prog tbx mtab 131 (w2 (s131 fuX)) := pfo e131 Tryz.func131 (by kernel_rfl) (w2_ok (q131 fuX))
noncomputable def s132 (fu : Nat) (cf : CF) (a0 : V) (h : H) (n : Id) (k : KV) : R :=
 evBuild tbx 210 [] fun v1 =>
 evBuildSl tbx 205 1 [(0, v1)] h n fun v2 h n =>
 evLen tbx 9 a0 fun v3 =>
 jp (fun (s4 : VT [3]) h n => pc s4 fun v6 s7 =>
 k v6 h n) fun kk5 =>
 lpC [0, 3, 10, 11] (fun lo9 s8 h n => pc s8 fun v10 s11 => pc s11 fun v12 s13 => pc s13 fun v14 s15 => pc s15 fun v16 s17 => evBin2 tbx .lss 3 v16 v14 fun v18 =>
 brB v18 (
 jp (fun (s19 : VT [0, 3, 10, 11]) h n => pc s19 fun v21 s22 => pc s22 fun v23 s24 => pc s24 fun v25 s26 => pc s26 fun v27 s28 => evBin2 tbx .add 3 v27 (.i .i64 1) fun v29 =>
 lo9 (v21, v23, v25, v29, ()) h n) fun kk20 =>
 evIx tbx 9 v10 v16 fun v30 =>
 evLen tbx 205 v12 fun v31 => evBin2 tbx .sub 3 v31 (.i .i64 1) fun v32 => evIa tbx 205 v12 v32 fun v33 =>
 jp (fun (s34 : VT [0, 3, 5, 6, 10, 11]) h n => pc s34 fun v36 s37 => pc s37 fun v38 s39 => pc s39 fun v40 s41 => pc s41 fun v42 s43 => pc s43 fun v44 s45 => pc s45 fun v46 s47 =>
 evNc' v42 fun v48 => evFa tbx 210 0 v48 fun v49 => evLoad tbx 9 v49 h fun v50 => evLoad tbx 9 v49 h fun w58 => cond (eqV 6 w58 v50) (
 evBuildSl tbx 73 1 [(0, v40)] h n fun v51 h n =>
 evRc tbx 73 9 v51 h fun v52 => evBin2 tbx .add 9 v50 v52 fun v53 =>
 evNc' v42 fun v54 => evFa tbx 210 0 v54 fun v55 => evLoad tbx 9 v49 h fun w57 => cond (eqV 6 w57 v50) (
 evRc tbx 73 9 v51 h fun w56 => cond (eqV 6 w56 v52) (
 evStore tbx 9 v55 v53 h n fun _ h n =>
 kk20 (v36, v38, v44, v46, ()) h n) none) none) none) fun kk35 => evBin2 tbx .eql 5 v30 (.i .u8 46) fun v59 =>
 jp (fun (v60 : V) h n =>
 jp (fun (v62 : V) h n => evPick v59 (.b true) v62 fun v64 =>
 brB v64 ( evBin2 tbx .eql 5 v30 (.i .u8 45) fun v65 =>
 evBuild tbx 210 [(1, v65)] fun v66 =>
 evBuildSl tbx 205 1 [(0, v66)] h n fun v67 h n =>
 evApp tbx 205 205 v12 v67 h n fun v68 h n =>
 kk20 (v10, v68, v14, v16, ()) h n) (
 evNc' v33 fun v69 => evFa tbx 210 0 v69 fun v70 => evLoad tbx 9 v70 h fun v71 => evBin2 tbx .neq 9 v71 (.s 0 0) fun v72 =>
 jp (fun (v73 : V) h n =>
 jp (fun (v75 : V) h n =>
 jp (fun (v77 : V) h n =>
 jp (fun (v79 : V) h n =>
 jp (fun (v81 : V) h n => evLoad tbx 9 v70 h fun w99 => cond (eqV 6 w99 v71) (
 jp (fun (v83 : V) h n =>
 jp (fun (v85 : V) h n =>
 jp (fun (v87 : V) h n => evPick v72 v87 (.b false) fun v89 =>
 brB v89 (
 cf 188 [v30] h n fun v90 h n =>
 evNc' v33 fun v91 => evFa tbx 210 2 v91 fun v92 =>
 evStore tbx 4 v92 v90 h n fun _ h n =>
 evBuild tbx 210 [(1, (.b true))] fun v93 =>
 evBuildSl tbx 205 1 [(0, v93)] h n fun v94 h n =>
 evApp tbx 205 205 v12 v94 h n fun v95 h n =>
 evLen tbx 205 v95 fun v96 => evBin2 tbx .sub 3 v96 (.i .i64 1) fun v97 => evIa tbx 205 v95 v97 fun v98 =>
 kk35 (v10, v95, v30, v98, v14, v16, ()) h n) (
 kk35 (v10, v12, v30, v33, v14, v16, ()) h n)) fun kk88 =>
 wsB (wV v72 true) ((evBin2 tbx .neq 4 v83 v85 fun v => kk88 v h n)) (kk88 (.tp []) h n)) fun kk86 =>
 wsB (wV v72 true) ((cf 188 [v81] h n kk86)) (kk86 (.tp []) h n)) fun kk84 =>
 wsB (wV v72 true) ((cf 188 [v73] h n kk84)) (kk84 (.tp []) h n)) none) fun kk82 =>
 wsB (wV v72 true) ((evIx tbx 9 v75 v79 fun v => kk82 v h n)) (kk82 (.tp []) h n)) fun kk80 =>
 wsB (wV v72 true) ((evBin2 tbx .sub 3 v77 (.i .i64 1) fun v => kk80 v h n)) (kk80 (.tp []) h n)) fun kk78 =>
 wsB (wV v72 true) (kk78 v16 h n) (kk78 (.tp []) h n)) fun kk76 =>
 wsB (wV v72 true) (kk76 v10 h n) (kk76 (.tp []) h n)) fun kk74 =>
 wsB (wV v72 true) (kk74 v30 h n) (kk74 (.tp []) h n))) fun kk63 =>
 gdB v59 false ((evBin2 tbx .eql 5 v60 (.i .u8 45) fun v => kk63 v h n)) (kk63 (.tp []) h n)) fun kk61 =>
 gdB v59 false (kk61 v30 h n) (kk61 (.tp []) h n)) (
 kk5 (v12, ()) h n)) fu (a0, v2, v3, (.i .i64 0), ()) h n
noncomputable def e132 : FE := ⟨Tryz.f132, bd Tryz.f132, [0], [2], (.q .z (.q .z (.q (.q .z (.b [3] (.l [0, 3, 10, 11] (.q .z (.q (.c .z .z) (.q (.b [0, 3, 10, 11] (.q .z (.q .z (.q (.b [0, 3, 5, 6, 10, 11] (.q .z (.c (.q .z .z) (.q .z (.c (.q .z (.q .z .z)) .z))))) .z)))) .z)))))) (.q .z .z))))⟩
theorem q132 (fu : Nat) (cf : CF) (a0 : V) (h : H) (n : Id) (k : KV) : evF fu cf e132 [a0] h n k = s132 fu cf a0 h n k := by kernel_rfl
theorem p132 : PfOk Tryz.prog tbx mtab 132 (w1 (s132 fuX)) := pfo e132 Tryz.func132 (by kernel_rfl) (w1_ok (q132 fuX))
noncomputable def s133 (fu : Nat) (cf : CF) (a0 : V) (h : H) (n : Id) (k : KV) : R :=
 evConv2 tbx mtab 9 73 a0 h n fun v1 h n =>
 evLen tbx 73 v1 fun v2 =>
 jp (fun (s3 : VT [3]) h n => pc s3 fun v5 s6 =>
 evConv2 tbx mtab 73 9 v5 h n fun v7 h n =>
 k v7 h n) fun kk4 =>
 lpC [3, 8, 9, 10] (fun lo9 s8 h n => pc s8 fun v10 s11 => pc s11 fun v12 s13 => pc s13 fun v14 s15 => pc s15 fun v16 s17 => evBin2 tbx .lss 3 v16 v14 fun v18 =>
 brB v18 (
 jp (fun (s19 : VT [3, 8, 9, 10]) h n => pc s19 fun v21 s22 => pc s22 fun v23 s24 => pc s24 fun v25 s26 => pc s26 fun v27 s28 => evBin2 tbx .add 3 v27 (.i .i64 1) fun v29 =>
 lo9 (v21, v23, v25, v29, ()) h n) fun kk20 => evIa tbx 73 v12 v16 fun v30 => evLoad tbx 5 v30 h fun v31 => evBin2 tbx .geq 5 v31 (.i .u8 65) fun v32 =>
 jp (fun (v33 : V) h n =>
 jp (fun (v35 : V) h n => evPick v32 v35 (.b false) fun v37 =>
 brB v37 ( evBin2 tbx .sub 5 v31 (.i .u8 65) fun v38 => evBin2 tbx .add 5 v38 (.i .u8 97) fun v39 => evIa tbx 73 v10 v16 fun v40 =>
 evStore tbx 5 v40 v39 h n fun _ h n =>
 kk20 (v10, v12, v14, v16, ()) h n) (
 kk20 (v10, v12, v14, v16, ()) h n)) fun kk36 =>
 gdB v32 true ((evBin2 tbx .leq 5 v33 (.i .u8 90) fun v => kk36 v h n)) (kk36 (.tp []) h n)) fun kk34 =>
 gdB v32 true (kk34 v31 h n) (kk34 (.tp []) h n)) (
 kk4 (v10, ()) h n)) fu (v1, v1, v2, (.i .i64 0), ()) h n
noncomputable def e133 : FE := ⟨Tryz.f133, bd Tryz.f133, [0], [2], (.q .z (.q .z (.q (.q .z (.b [3] (.l [3, 8, 9, 10] (.q .z (.q (.c .z .z) (.q (.b [3, 8, 9, 10] (.q .z (.q .z (.c .z .z)))) .z)))))) (.q .z .z))))⟩
theorem q133 (fu : Nat) (cf : CF) (a0 : V) (h : H) (n : Id) (k : KV) : evF fu cf e133 [a0] h n k = s133 fu cf a0 h n k := by kernel_rfl
theorem p133 : PfOk Tryz.prog tbx mtab 133 (w1 (s133 fuX)) := pfo e133 Tryz.func133 (by kernel_rfl) (w1_ok (q133 fuX))
noncomputable def s134 (fu : Nat) (cf : CF) (a0 : V) (h : H) (n : Id) (k : KV) : R :=
 evLen tbx 151 a0 fun v1 => evBin2 tbx .sub 3 v1 (.i .i64 1) fun v2 =>
 jp (fun (s3 : VT []) h n =>
 k (.tp []) h n) fun kk4 =>
 lpC [0, 2, 3] (fun lo6 s5 h n => pc s5 fun v7 s8 => pc s8 fun v9 s10 => pc s10 fun v11 s12 => evBin2 tbx .lss 3 v9 v11 fun v13 =>
 brB v13 (
 jp (fun (s14 : VT [0, 2, 3]) h n => pc s14 fun v16 s17 => pc s17 fun v18 s19 => pc s19 fun v20 s21 => evBin2 tbx .add 3 v18 (.i .i64 1) fun v22 => evBin2 tbx .sub 3 v20 (.i .i64 1) fun v23 =>
 lo6 (v16, v22, v23, ()) h n) fun kk15 => evIa tbx 151 v7 v11 fun v24 => evLoad tbx 203 v24 h fun v25 => evIa tbx 151 v7 v9 fun v26 => evLoad tbx 203 v26 h fun v27 => evIa tbx 151 v7 v9 fun v28 => evLoad tbx 203 v24 h fun w31 => cond (eqV 6 w31 v25) ( evLoad tbx 203 v26 h fun w30 => cond (eqV 6 w30 v27) (
 evStore tbx 203 v28 v25 h n fun _ h n => evIa tbx 151 v7 v11 fun v29 =>
 evStore tbx 203 v29 v27 h n fun _ h n =>
 kk15 (v7, v9, v11, ()) h n) none) none) (
 kk4 (()) h n)) fu (a0, (.i .i64 0), v2, ()) h n
noncomputable def e134 : FE := ⟨Tryz.f134, bd Tryz.f134, [0], [], (.q .z (.b [] (.l [0, 2, 3] (.q (.q .z (.c .z .z)) (.q (.b [0, 2, 3] .z) .z)))))⟩
theorem q134 (fu : Nat) (cf : CF) (a0 : V) (h : H) (n : Id) (k : KV) : evF fu cf e134 [a0] h n k = s134 fu cf a0 h n k := by kernel_rfl
theorem p134 : PfOk Tryz.prog tbx mtab 134 (w1 (s134 fuX)) := pfo e134 Tryz.func134 (by kernel_rfl) (w1_ok (q134 fuX))
noncomputable def s135 (fu : Nat) (cf : CF) (a0 : V) (h : H) (n : Id) (k : KV) : R :=
 evBox a0 h n fun v1 h n =>
 evAlloc tbx 203 h n fun v2 h n => evFa tbx 210 0 v1 fun v3 => evLoad tbx 9 v3 h fun v4 => evBin2 tbx .neq 9 v4 (.s 0 0) fun v5 =>
 jp (fun (v6 : V) h n =>
 jp (fun (v8 : V) h n =>
 jp (fun (v10 : V) h n =>
 jp (fun (v12 : V) h n =>
 jp (fun (v14 : V) h n => evPick v5 v14 (.b false) fun v16 =>
 brB v16 ( evLoad tbx 210 v1 h fun v17 =>
 cf 189 [v17] h n fun v18 h n =>
 evStore tbx 203 v2 v18 h n fun _ h n => evLoad tbx 203 v2 h fun v19 =>
 k v19 h n) ( evFa tbx 210 0 v1 fun v20 => evLoad tbx 9 v20 h fun v21 =>
 cf 190 [v21, (.s 1 48)] h n fun v22 h n =>
 jp (fun (s23 : VT [2, 3]) h n => pc s23 fun v25 s26 => pc s26 fun v27 s28 =>
 evBuild tbx 203 [(0, (.i .i64 10)), (1, v27)] fun v29 =>
 evStore tbx 203 v25 v29 h n fun _ h n => evLoad tbx 203 v25 h fun v30 =>
 k v30 h n) fun kk24 => evBin2 tbx .eql 9 v22 (.s 0 0) fun v31 =>
 brB v31 (
 evBuild tbx 203 [(0, (.i .i64 6))] fun v32 =>
 evStore tbx 203 v2 v32 h n fun _ h n => evLoad tbx 203 v2 h fun v33 =>
 k v33 h n) ( evFa tbx 210 1 v1 fun v34 => evLoad tbx 4 v34 h fun v35 =>
 brB v35 (
 evBuild tbx 203 [(0, (.i .i64 9)), (1, v22)] fun v36 =>
 evStore tbx 203 v2 v36 h n fun _ h n => evLoad tbx 203 v2 h fun v37 =>
 k v37 h n) (
 kk24 (v2, v22, ()) h n)))) fun kk15 =>
 gdB v5 true ((evUn .not v12 fun v => kk15 v h n)) (kk15 (.tp []) h n)) fun kk13 =>
 gdB v5 true ((cf 188 [v10] h n kk13)) (kk13 (.tp []) h n)) fun kk11 =>
 gdB v5 true ((evIx tbx 9 v8 (.i .i64 0) fun v => kk11 v h n)) (kk11 (.tp []) h n)) fun kk9 =>
 gdB v5 true ((evLoad tbx 9 v6 h fun v => kk9 v h n)) (kk9 (.tp []) h n)) fun kk7 =>
 gdB v5 true ((evFa tbx 210 0 v1 fun v => kk7 v h n)) (kk7 (.tp []) h n)
noncomputable def e135 : FE := ⟨Tryz.f135, bd Tryz.f135, [0], [2], (.q .z (.q (.q .z (.c (.q .z .z) .z)) (.q .z (.q (.b [2, 3] (.q .z (.c (.q .z .z) (.q .z (.c (.q .z .z) .z))))) (.q .z .z)))))⟩
theorem q135 (fu : Nat) (cf : CF) (a0 : V) (h : H) (n : Id) (k : KV) : evF fu cf e135 [a0] h n k = s135 fu cf a0 h n k := by kernel_rfl
theorem p135 : PfOk Tryz.prog tbx mtab 135 (w1 (s135 fuX)) := pfo e135 Tryz.func135 (by kernel_rfl) (w1_ok (q135 fuX))
noncomputable def s136 (fu : Nat) (cf : CF) (a0 a1 : V) (h : H) (n : Id) (k : KV) : R :=
 evLen tbx 73 a0 fun v1 =>
 jp (fun (s2 : VT []) h n =>
 k (.i .i64 (-1)) h n) fun kk3 =>
 lpC [0, 1, 7, 8] (fun lo5 s4 h n => pc s4 fun v6 s7 => pc s7 fun v8 s9 => pc s9 fun v10 s11 => pc s11 fun v12 s13 => evBin2 tbx .lss 3 v12 v10 fun v14 =>
 brB v14 (
 jp (fun (s15 : VT [0, 1, 7, 8]) h n => pc s15 fun v17 s18 => pc s18 fun v19 s20 => pc s20 fun v21 s22 => pc s22 fun v23 s24 => evBin2 tbx .add 3 v23 (.i .i64 1) fun v25 =>
 lo5 (v17, v19, v21, v25, ()) h n) fun kk16 => evIa tbx 73 v6 v12 fun v26 => evLoad tbx 5 v26 h fun v27 =>
 evCall cf v8 [v27] h n fun v28 h n =>
 brB v28 (
 k v12 h n) (
 kk16 (v6, v8, v10, v12, ()) h n)) (
 kk3 (()) h n)) fu (a0, a1, v1, (.i .i64 0), ()) h n
noncomputable def e136 : FE := ⟨Tryz.f136, bd Tryz.f136, [0, 1], [4], (.q .z (.q (.q .z (.b [] (.l [0, 1, 7, 8] (.q .z (.q (.c .z .z) (.q (.b [0, 1, 7, 8] (.q .z (.q .z (.c (.q .z .z) .z)))) .z)))))) (.q .z .z)))⟩
theorem q136 (fu : Nat) (cf : CF) (a0 a1 : V) (h : H) (n : Id) (k : KV) : evF fu cf e136 [a0, a1] h n k = s136 fu cf a0 a1 h n k := by kernel_rfl
theorem p136 : PfOk Tryz.prog tbx mtab 136 (w2 (s136 fuX)) := pfo e136 Tryz.func136 (by kernel_rfl) (w2_ok (q136 fuX))
noncomputable def s137 (fu : Nat) (cf : CF) (a0 a1 : V) (h : H) (n : Id) (k : KV) : R :=
 cf 191 [a0, a1] h n fun v1 h n =>
 k v1 h n
noncomputable def e137 : FE := ⟨Tryz.f137, bd Tryz.f137, [0, 1], [4], (.q .z (.q .z .z))⟩
theorem q137 (fu : Nat) (cf : CF) (a0 a1 : V) (h : H) (n : Id) (k : KV) : evF fu cf e137 [a0, a1] h n k = s137 fu cf a0 a1 h n k := by kernel_rfl
theorem p137 : PfOk Tryz.prog tbx mtab 137 (w2 (s137 fuX)) := pfo e137 Tryz.func137 (by kernel_rfl) (w2_ok (q137 fuX))
noncomputable def s139 (fu : Nat) (cf : CF) (a0 : V) (h : H) (n : Id) (k : KV) : R :=
 cf 140 [a0] h n fun v1 h n =>
 evUn .not v1 fun v2 =>
 k v2 h n
noncomputable def e139 : FE := ⟨Tryz.f139, bd Tryz.f139, [0], [2], (.q .z (.q .z .z))⟩
theorem q139 (fu : Nat) (cf : CF) (a0 : V) (h : H) (n : Id) (k : KV) : evF fu cf e139 [a0] h n k = s139 fu cf a0 h n k := by kernel_rfl
theorem p139 : PfOk Tryz.prog tbx mtab 139 (w1 (s139 fuX)) := pfo e139 Tryz.func139 (by kernel_rfl) (w1_ok (q139 fuX))
noncomputable def s140 (fu : Nat) (cf : CF) (a0 : V) (h : H) (n : Id) (k : KV) : R :=
 evBin2 tbx .gtr 5 a0 (.i .u8 32) fun v1 =>
 jp (fun (v2 : V) h n =>
 jp (fun (v4 : V) h n => evPick v1 (.b true) v4 fun v6 =>
 k v6 h n) fun kk5 =>
 gdB v1 false ((cf 195 [v2] h n kk5)) (kk5 (.tp []) h n)) fun kk3 =>
 gdB v1 false (kk3 a0 h n) (kk3 (.tp []) h n)
noncomputable def e140 : FE := ⟨Tryz.f140, bd Tryz.f140, [0], [2], (.q .z (.q .z .z))⟩
theorem q140 (fu : Nat) (cf : CF) (a0 : V) (h : H) (n : Id) (k : KV) : evF fu cf e140 [a0] h n k = s140 fu cf a0 h n k := by kernel_rfl
theorem p140 : PfOk Tryz.prog tbx mtab 140 (w1 (s140 fuX)) := pfo e140 Tryz.func140 (by kernel_rfl) (w1_ok (q140 fuX))
noncomputable def s141 (fu : Nat) (cf : CF) (a0 a1 : V) (h : H) (n : Id) (k : KV) : R :=
 jp (fun (s1 : VT [0]) h n => pc s1 fun v3 s4 =>
 cf 202 [v3] h n fun v5 h n =>
 k v5 h n) fun kk2 =>
 cf 196 [a0, (.s 4 1008807213)] h n fun v6 h n =>
 brB v6 (
 cf 197 [a0] h n fun v7 h n =>
 k v7 h n) (
 cf 196 [a0, (.s 9 1109208233209138266459)] h n fun v8 h n =>
 brB v8 (
 cf 198 [a0] h n fun v9 h n =>
 k v9 h n) (
 cf 196 [a0, (.s 2 15423)] h n fun v10 h n =>
 brB v10 (
 cf 199 [a0, a1] h n fun v11 h n =>
 k v11 h n) (
 cf 196 [a0, (.s 2 15407)] h n fun v12 h n =>
 brB v12 (
 cf 200 [a0] h n fun v13 h n =>
 k v13 h n) (
 cf 196 [a0, (.s 1 60)] h n fun v14 h n =>
 brB v14 (
 cf 201 [a0] h n fun v15 h n =>
 k v15 h n) (
 kk2 (a0, ()) h n)))))
noncomputable def e141 : FE := ⟨Tryz.f141, bd Tryz.f141, [0, 1], [4], (.q .z (.q (.b [0] (.q .z (.c (.q .z .z) (.q .z (.c (.q .z .z) (.q .z (.c (.q .z .z) (.q .z (.c (.q .z .z) (.q .z (.c (.q .z .z) .z))))))))))) (.q .z .z)))⟩
theorem q141 (fu : Nat) (cf : CF) (a0 a1 : V) (h : H) (n : Id) (k : KV) : evF fu cf e141 [a0, a1] h n k = s141 fu cf a0 a1 h n k := by kernel_rfl
theorem p141 : PfOk Tryz.prog tbx mtab 141 (w2 (s141 fuX)) := pfo e141 Tryz.func141 (by kernel_rfl) (w2_ok (q141 fuX))
noncomputable def s142 (fu : Nat) (cf : CF) (a0 a1 : V) (h : H) (n : Id) (k : KV) : R :=
 evBox a1 h n fun v1 h n => evFa tbx 222 0 v1 fun v2 => evLoad tbx 3 v2 h fun v3 =>
 jp (fun (s4 : VT []) h n =>
 k (.i .i64 5) h n) fun kk5 =>
 jp (fun (s6 : VT [0, 3, 6, 7]) h n => pc s6 fun v8 s9 => pc s9 fun v10 s11 => pc s11 fun v12 s13 => pc s13 fun v14 s15 =>
 brB v14 (
 k (.i .i64 0) h n) ( evBin2 tbx .eql 3 v12 (.i .i64 1) fun v16 =>
 brB v16 ( evLoad tbx 222 v10 h fun v17 =>
 cf 203 [v8, v17] h n fun v18 h n =>
 k v18 h n) ( evBin2 tbx .eql 3 v12 (.i .i64 2) fun v19 =>
 brB v19 ( evLoad tbx 222 v10 h fun v20 =>
 cf 204 [v8, v20] h n fun v21 h n =>
 k v21 h n) ( evBin2 tbx .eql 3 v12 (.i .i64 3) fun v22 =>
 brB v22 ( evFa tbx 222 2 v10 fun v23 => evLoad tbx 9 v23 h fun v24 =>
 cf 205 [v8, v24] h n fun v25 h n =>
 k v25 h n) (
 kk5 (()) h n))))) fun kk7 => evBin2 tbx .eql 3 v3 (.i .i64 4) fun v26 =>
 brB v26 (
 kk7 (a0, v1, v3, v26, ()) h n) ( evBin2 tbx .eql 3 v3 (.i .i64 5) fun v27 =>
 kk7 (a0, v1, v3, v27, ()) h n)
noncomputable def e142 : FE := ⟨Tryz.f142, bd Tryz.f142, [0, 1], [4], (.q .z (.q (.q .z (.b [] (.s [0, 3, 6, 7] (.q .z (.c .z .z)) (.c (.q .z .z) (.q .z (.c (.q .z .z) (.q .z (.c (.q .z .z) (.q .z (.c (.q .z .z) .z)))))))))) (.q .z .z)))⟩
theorem q142 (fu : Nat) (cf : CF) (a0 a1 : V) (h : H) (n : Id) (k : KV) : evF fu cf e142 [a0, a1] h n k = s142 fu cf a0 a1 h n k := by kernel_rfl
theorem p142 : PfOk Tryz.prog tbx mtab 142 (w2 (s142 fuX)) := pfo e142 Tryz.func142 (by kernel_rfl) (w2_ok (q142 fuX))
noncomputable def s143 (fu : Nat) (cf : CF) (a0 : V) (h : H) (n : Id) (k : KV) : R :=
 evBox a0 h n fun v1 h n => evFa tbx 162 1 v1 fun v2 => evLoad tbx 9 v2 h fun v3 => evBin2 tbx .eql 9 v3 (.s 0 0) fun v4 =>
 brB v4 ( evFa tbx 162 2 v1 fun v5 => evLoad tbx 9 v5 h fun v6 => evBin2 tbx .neq 9 v6 (.s 0 0) fun v7 =>
 jp (fun (v8 : V) h n =>
 jp (fun (v10 : V) h n =>
 jp (fun (v12 : V) h n => evPick v7 v12 (.b false) fun v14 =>
 jp (fun (v15 : V) h n =>
 jp (fun (v17 : V) h n =>
 jp (fun (v19 : V) h n =>
 jp (fun (v21 : V) h n => evPick v14 v21 (.b false) fun v23 =>
 k v23 h n) fun kk22 =>
 gdB v14 true ((evBin2 tbx .eql 3 v19 (.i .i64 0) fun v => kk22 v h n)) (kk22 (.tp []) h n)) fun kk20 =>
 gdB v14 true ((evLen tbx 160 v17 fun v => kk20 v h n)) (kk20 (.tp []) h n)) fun kk18 =>
 gdB v14 true ((evLoad tbx 160 v15 h fun v => kk18 v h n)) (kk18 (.tp []) h n)) fun kk16 =>
 gdB v14 true ((evFa tbx 162 3 v1 fun v => kk16 v h n)) (kk16 (.tp []) h n)) fun kk13 =>
 gdB v7 true ((cf 206 [v10] h n kk13)) (kk13 (.tp []) h n)) fun kk11 =>
 gdB v7 true ((evLoad tbx 9 v8 h fun v => kk11 v h n)) (kk11 (.tp []) h n)) fun kk9 =>
 gdB v7 true ((evFa tbx 162 2 v1 fun v => kk9 v h n)) (kk9 (.tp []) h n)) ( evFa tbx 162 1 v1 fun v24 => evLoad tbx 9 v24 h fun v25 =>
 cf 207 [v25] h n fun v26 h n =>
 jp (fun (v27 : V) h n =>
 jp (fun (v29 : V) h n =>
 jp (fun (v31 : V) h n => evPick v26 v31 (.b false) fun v33 =>
 jp (fun (v34 : V) h n =>
 jp (fun (v36 : V) h n =>
 jp (fun (v38 : V) h n => evPick v33 v38 (.b false) fun v40 =>
 k v40 h n) fun kk39 =>
 gdB v33 true ((cf 208 [v36] h n kk39)) (kk39 (.tp []) h n)) fun kk37 =>
 gdB v33 true ((evLoad tbx 160 v34 h fun v => kk37 v h n)) (kk37 (.tp []) h n)) fun kk35 =>
 gdB v33 true ((evFa tbx 162 3 v1 fun v => kk35 v h n)) (kk35 (.tp []) h n)) fun kk32 =>
 gdB v26 true ((evBin2 tbx .eql 9 v29 (.s 0 0) fun v => kk32 v h n)) (kk32 (.tp []) h n)) fun kk30 =>
 gdB v26 true ((evLoad tbx 9 v27 h fun v => kk30 v h n)) (kk30 (.tp []) h n)) fun kk28 =>
 gdB v26 true ((evFa tbx 162 2 v1 fun v => kk28 v h n)) (kk28 (.tp []) h n))
noncomputable def e143 : FE := ⟨Tryz.f143, bd Tryz.f143, [0], [2], (.q .z (.q (.q .z (.c (.q .z .z) .z)) (.q .z .z)))⟩
theorem q143 (fu : Nat) (cf : CF) (a0 : V) (h : H) (n : Id) (k : KV) : evF fu cf e143 [a0] h n k = s143 fu cf a0 h n k := by kernel_rfl
theorem p143 : PfOk Tryz.prog tbx mtab 143 (w1 (s143 fuX)) := pfo e143 Tryz.func143 (by kernel_rfl) (w1_ok (q143 fuX))
noncomputable def s144 (fu : Nat) (cf : CF) (a0 a1 : V) (h : H) (n : Id) (k : KV) : R :=
 cf 209 [a0, a1] h n fun v1 h n => evBin2 tbx .add 3 v1 (.i .i64 1) fun v2 =>
 evSlc tbx 224 a0 none (some v2) fun v3 => evBin2 tbx .geq 3 v1 (.i .i64 0) fun v4 =>
 k (.tp [v3, v4]) h n
noncomputable def e144 : FE := ⟨Tryz.f144, bd Tryz.f144, [0, 1], [4, 5], (.q .z (.q .z (.q .z .z)))⟩
theorem q144 (fu : Nat) (cf : CF) (a0 a1 : V) (h : H) (n : Id) (k : KV) : evF fu cf e144 [a0, a1] h n k = s144 fu cf a0 a1 h n k := by kernel_rfl
theorem p144 : PfOk Tryz.prog tbx mtab 144 (w2 (s144 fuX)) := pfo e144 Tryz.func144 (by kernel_rfl) (w2_ok (q144 fuX))
noncomputable def s145 (fu : Nat) (cf : CF) (a0 a1 a2 : V) (h : H) (n : Id) (k : KV) : R :=
 jp (fun (s3 : VT [6]) h n => pc s3 fun v6 s7 =>
 k v6 h n) fun kk1 =>
 jp (lpC [0, 1, 2, 7] (fun lo5 s4 h n => pc s4 fun v8 s9 => pc s9 fun v10 s11 => pc s11 fun v12 s13 => pc s13 fun v14 s15 =>
 evLen tbx 149 v14 fun v16 => evBin2 tbx .gtr 3 v16 (.i .i64 0) fun v17 =>
 brB v17 ( evIa tbx 149 v14 (.i .i64 0) fun v18 => evLoad tbx 3 v18 h fun v19 =>
 evCall cf v12 [v19] h n fun v20 h n => evBin2 tbx .neq 33 v20 (.i .i64 0) fun v21 =>
 brB v21 (
 k v20 h n) (
 evSlc tbx 149 v14 (some (.i .i64 1)) none fun v22 =>
 lo5 (v8, v10, v12, v22, ()) h n)) (
 evNc' v8 fun v23 => evFa tbx 166 0 v23 fun v24 => evLoad tbx 114 v24 h fun v25 =>
 cf 211 [v25, v10] h n fun v26 h n =>
 cf 210 [v26] h n fun v27 h n => evBin2 tbx .neq 9 v27 (.s 0 0) fun v28 =>
 brB v28 (
 k (.i .i64 10) h n) (
 k (.i .i64 0) h n))) fu) fun lo2 =>
 evNc' a0 fun v29 => evFa tbx 166 1 v29 fun v30 => evLoad tbx 164 v30 h fun v31 => evIa tbx 164 v31 a1 fun v32 => evLoad tbx 149 v32 h fun v33 =>
 evLen tbx 149 v33 fun v34 => evBin2 tbx .gtr 3 v34 (.i .i64 0) fun v35 =>
 brB v35 ( evIa tbx 149 v33 (.i .i64 0) fun v36 => evLoad tbx 3 v36 h fun v37 =>
 evCall cf a2 [v37] h n fun v38 h n => evBin2 tbx .neq 33 v38 (.i .i64 0) fun v39 =>
 brB v39 (
 k v38 h n) (
 evSlc tbx 149 v33 (some (.i .i64 1)) none fun v40 =>
 lo2 (a0, a1, a2, v40, ()) h n)) (
 evNc' a0 fun v41 => evFa tbx 166 0 v41 fun v42 => evLoad tbx 114 v42 h fun v43 =>
 cf 211 [v43, a1] h n fun v44 h n =>
 cf 210 [v44] h n fun v45 h n => evBin2 tbx .neq 9 v45 (.s 0 0) fun v46 =>
 brB v46 (
 k (.i .i64 10) h n) (
 k (.i .i64 0) h n))
noncomputable def e145 : FE := ⟨Tryz.f145, bd Tryz.f145, [0, 1, 2], [6], (.q .z (.g 0 [0, 1, 2, 7] [6] (.q .z (.q .z (.q (.q .z (.c (.q (.q .z (.q .z (.c (.q .z .z) .z))) (.q .z .z)) .z)) (.q (.q .z (.c (.q .z .z) .z)) (.q .z .z))))) (.q .z (.q (.q .z (.c (.q (.q .z (.q .z (.c (.q .z .z) .z))) (.q .z .z)) .z)) (.q (.q .z (.c (.q .z .z) .z)) (.q .z .z))))))⟩
theorem q145 (fu : Nat) (cf : CF) (a0 a1 a2 : V) (h : H) (n : Id) (k : KV) : evF fu cf e145 [a0, a1, a2] h n k = s145 fu cf a0 a1 a2 h n k := by kernel_rfl
theorem p145 : PfOk Tryz.prog tbx mtab 145 (w3 (s145 fuX)) := pfo e145 Tryz.func145 (by kernel_rfl) (w3_ok (q145 fuX))
noncomputable def s146 (fu : Nat) (cf : CF) (a0 a1 a2 a3 : V) (h : H) (n : Id) (k : KV) : R :=
 evLoad tbx 163 a1 h fun v1 =>
 evNc' v1 fun v2 => evFa tbx 166 0 v2 fun v3 => evLoad tbx 114 v3 h fun v4 => evIa tbx 114 v4 a0 fun v5 => evFa tbx 162 1 v5 fun v6 => evLoad tbx 9 v6 h fun v7 => evLoad tbx 177 a2 h fun v8 =>
 evLook tbx mtab 177 v8 v7 true h fun v9 => evExt 0 v9 fun v10 => evExt 1 v9 fun v11 =>
 jp (fun (s12 : VT [0, 3, 6, 7]) h n => pc s12 fun v14 s15 => pc s15 fun v16 s17 => pc s17 fun v18 s19 => pc s19 fun v20 s21 => evLoad tbx 227 v16 h fun v22 =>
 evMapUpd mtab 227 v22 v18 (.b true) h n fun _ h n =>
 evCall cf v20 [v14] h n fun v23 h n =>
 k v23 h n) fun kk13 =>
 evUn .not v11 fun v24 =>
 brB v24 (
 k (.i .i64 0) h n) ( evLoad tbx 227 a3 h fun v25 =>
 evLook tbx mtab 227 v25 v7 false h fun v26 =>
 brB v26 (
 k (.i .i64 9) h n) (
 kk13 (a0, a3, v7, v10, ()) h n))
noncomputable def e146 : FE := ⟨Tryz.f146, bd Tryz.f146, [0, 1, 2, 3], [5], (.q .z (.q .z (.q .z (.q (.b [0, 3, 6, 7] (.q .z (.c (.q .z .z) (.q .z (.c (.q .z .z) .z))))) (.q .z (.q .z .z))))))⟩
theorem q146 (fu : Nat) (cf : CF) (a0 a1 a2 a3 : V) (h : H) (n : Id) (k : KV) : evF fu cf e146 [a0, a1, a2, a3] h n k = s146 fu cf a0 a1 a2 a3 h n k := by kernel_rfl
theorem p146 : PfOk Tryz.prog tbx mtab 146 (w4 (s146 fuX)) := pfo e146 Tryz.func146 (by kernel_rfl) (w4_ok (q146 fuX))
noncomputable def s147 (fu : Nat) (cf : CF) (a0 a1 a2 : V) (h : H) (n : Id) (k : KV) : R :=
 evLoad tbx 163 a1 h fun v1 =>
 cf 148 [v1, a0] h n fun v2 h n => evExt 0 v2 fun v3 => evExt 1 v2 fun v4 => evLoad tbx 169 a2 h fun v5 =>
 evNc' v5 fun v6 =>
 evStore tbx 9 v6 v3 h n fun _ h n =>
 k v4 h n
noncomputable def e147 : FE := ⟨Tryz.f147, bd Tryz.f147, [0, 1, 2], [4], (.q .z (.q .z (.q .z (.q .z .z))))⟩
theorem q147 (fu : Nat) (cf : CF) (a0 a1 a2 : V) (h : H) (n : Id) (k : KV) : evF fu cf e147 [a0, a1, a2] h n k = s147 fu cf a0 a1 a2 h n k := by kernel_rfl
theorem p147 : PfOk Tryz.prog tbx mtab 147 (w3 (s147 fuX)) := pfo e147 Tryz.func147 (by kernel_rfl) (w3_ok (q147 fuX))
noncomputable def s148 (fu : Nat) (cf : CF) (a0 a1 : V) (h : H) (n : Id) (k : KV) : R :=
 evNc' a0 fun v1 => evFa tbx 166 0 v1 fun v2 => evLoad tbx 114 v2 h fun v3 =>
 cf 211 [v3, a1] h n fun v4 h n =>
 cf 210 [v4] h n fun v5 h n =>
 evNc' a0 fun v6 => evFa tbx 166 1 v6 fun v7 => evLoad tbx 164 v7 h fun v8 => evIa tbx 164 v8 a1 fun v9 => evLoad tbx 149 v9 h fun v10 =>
 evLen tbx 149 v10 fun v11 => evBin2 tbx .gtr 3 v11 (.i .i64 0) fun v12 =>
 jp (fun (v13 : V) h n =>
 jp (fun (v15 : V) h n =>
 jp (fun (v17 : V) h n => evPick v12 (.b true) v17 fun v19 =>
 brB v19 (
 k (.tp [(.s 0 0), (.i .i64 10)]) h n) (
 k (.tp [v5, (.i .i64 0)]) h n)) fun kk18 =>
 gdB v12 false ((evBin2 tbx .gtr 3 v15 (.i .i64 500) fun v => kk18 v h n)) (kk18 (.tp []) h n)) fun kk16 =>
 gdB v12 false ((evLen tbx 9 v13 fun v => kk16 v h n)) (kk16 (.tp []) h n)) fun kk14 =>
 gdB v12 false (kk14 v5 h n) (kk14 (.tp []) h n)
noncomputable def e148 : FE := ⟨Tryz.f148, bd Tryz.f148, [0, 1], [4, 5], (.q .z (.q .z (.q (.q .z (.c (.q .z .z) .z)) (.q .z .z))))⟩
theorem q148 (fu : Nat) (cf : CF) (a0 a1 : V) (h : H) (n : Id) (k : KV) : evF fu cf e148 [a0, a1] h n k = s148 fu cf a0 a1 h n k := by kernel_rfl
theorem p148 : PfOk Tryz.prog tbx mtab 148 (w2 (s148 fuX)) := pfo e148 Tryz.func148 (by kernel_rfl) (w2_ok (q148 fuX))
noncomputable def s149 (fu : Nat) (cf : CF) (a0 a1 a2 : V) (h : H) (n : Id) (k : KV) : R :=
 evLoad tbx 163 a1 h fun v1 => evLoad tbx 163 a1 h fun v2 => evLoad tbx 171 a2 h fun v3 =>
 evNc' v3 fun v4 => evFa tbx 24 0 v4 fun v5 => evLoad tbx 163 a1 h fun v6 => evLoad tbx 171 a2 h fun v7 =>
 evNc' v7 fun v8 => evFa tbx 24 1 v8 fun v9 => evLoad tbx 163 a1 h fun v10 => evLoad tbx 171 a2 h fun v11 =>
 evNc' v11 fun v12 => evFa tbx 24 2 v12 fun v13 => evLoad tbx 163 a1 h fun w54 => cond (eqV 6 w54 v1) ( evLoad tbx 163 a1 h fun w53 => cond (eqV 6 w53 v2) ( evLoad tbx 171 a2 h fun w52 => cond (eqV 6 w52 v3) ( evLoad tbx 163 a1 h fun w51 => cond (eqV 6 w51 v6) ( evLoad tbx 171 a2 h fun w50 => cond (eqV 6 w50 v7) ( evLoad tbx 163 a1 h fun w49 => cond (eqV 6 w49 v10) ( evLoad tbx 171 a2 h fun w48 => cond (eqV 6 w48 v11) (
 cf 99 [v2, v5] h n fun v14 h n => evLoad tbx 163 a1 h fun w47 => cond (eqV 6 w47 v1) ( evLoad tbx 163 a1 h fun w46 => cond (eqV 6 w46 v6) ( evLoad tbx 171 a2 h fun w45 => cond (eqV 6 w45 v7) ( evLoad tbx 163 a1 h fun w44 => cond (eqV 6 w44 v10) ( evLoad tbx 171 a2 h fun w43 => cond (eqV 6 w43 v11) (
 cf 99 [v6, v9] h n fun v15 h n => evLoad tbx 163 a1 h fun w42 => cond (eqV 6 w42 v1) ( evLoad tbx 163 a1 h fun w41 => cond (eqV 6 w41 v10) ( evLoad tbx 171 a2 h fun w40 => cond (eqV 6 w40 v11) (
 cf 99 [v10, v13] h n fun v16 h n =>
 alB n fun n' => litA [((.s 7 29117745638426980), v14), ((.s 10 460180866011107895298404), v15), ((.s 7 33325589488824174), v16)] fun x mk => 
 (fun (v17 : V) h n => evLoad tbx 163 a1 h fun w39 => cond (eqV 6 w39 v1) (
 ckO (vId v17) h fun id x' => litA [((.s 7 29117745638426980), v14), ((.s 10 460180866011107895298404), v15), ((.s 7 33325589488824174), v16)] fun x mk => cond (eqO x' x) (cond (eqV 6 (mk id) v17) (
 cf 98 [v1, a0, v17] h n fun v18 h n => evLoad tbx 171 a2 h fun v19 =>
 evNc' v19 fun v20 => evFa tbx 24 0 v20 fun v21 => evLoad tbx 9 v21 h fun v22 => evLoad tbx 171 a2 h fun v23 =>
 evNc' v23 fun v24 => evFa tbx 24 1 v24 fun v25 => evLoad tbx 9 v25 h fun v26 => evLoad tbx 171 a2 h fun v27 =>
 evNc' v27 fun v28 => evFa tbx 24 2 v28 fun v29 => evLoad tbx 9 v29 h fun v30 => evLoad tbx 171 a2 h fun w38 => cond (eqV 6 w38 v19) ( evLoad tbx 9 v21 h fun w37 => cond (eqV 6 w37 v22) ( evLoad tbx 171 a2 h fun w36 => cond (eqV 6 w36 v23) ( evLoad tbx 9 v25 h fun w35 => cond (eqV 6 w35 v26) ( evLoad tbx 171 a2 h fun w34 => cond (eqV 6 w34 v27) ( evLoad tbx 9 v29 h fun w33 => cond (eqV 6 w33 v30) (
 evBuildSl tbx 71 3 [(0, v22), (1, v26), (2, v30)] h n fun v31 h n =>
 cf 104 [v18, v31] h n fun v32 h n =>
 k v32 h n) none) none) none) none) none) none) none) none) none) (mk n) (hset x n h) n') none) none) none) none) none) none) none) none) none) none) none) none) none) none) none
noncomputable def e149 : FE := ⟨Tryz.f149, bd Tryz.f149, [0, 1, 2], [4], (.q .z (.q .z (.q .z .z)))⟩
theorem q149 (fu : Nat) (cf : CF) (a0 a1 a2 : V) (h : H) (n : Id) (k : KV) : evF fu cf e149 [a0, a1, a2] h n k = s149 fu cf a0 a1 a2 h n k := by kernel_rfl
theorem p149 : PfOk Tryz.prog tbx mtab 149 (w3 (s149 fuX)) := pfo e149 Tryz.func149 (by kernel_rfl) (w3_ok (q149 fuX))
noncomputable def s150 (fu : Nat) (cf : CF) (a0 a1 a2 : V) (h : H) (n : Id) (k : KV) : R :=
 evMkMap h n fun v1 h n =>
 evAlloc tbx 227 h n fun v2 h n =>
 evStore tbx 227 v2 v1 h n fun _ h n => evLoad tbx 163 a1 h fun v3 =>
 let v4 : V := (.fn 151 [a1, v2, a2])
 cf 145 [v3, a0, v4] h n fun v5 h n =>
 k v5 h n
noncomputable def e150 : FE := ⟨Tryz.f150, bd Tryz.f150, [0, 1, 2], [4], (.q .z (.q .z (.q .z .z)))⟩
theorem q150 (fu : Nat) (cf : CF) (a0 a1 a2 : V) (h : H) (n : Id) (k : KV) : evF fu cf e150 [a0, a1, a2] h n k = s150 fu cf a0 a1 a2 h n k := by kernel_rfl
theorem p150 : PfOk Tryz.prog tbx mtab 150 (w3 (s150 fuX)) := pfo e150 Tryz.func150 (by kernel_rfl) (w3_ok (q150 fuX))
noncomputable def s151 (fu : Nat) (cf : CF) (a0 a1 a2 a3 : V) (h : H) (n : Id) (k : KV) : R :=
 evLoad tbx 163 a1 h fun v1 =>
 evNc' v1 fun v2 => evFa tbx 166 0 v2 fun v3 => evLoad tbx 114 v3 h fun v4 => evIa tbx 114 v4 a0 fun v5 => evFa tbx 162 1 v5 fun v6 => evLoad tbx 9 v6 h fun v7 =>
 jp (fun (s8 : VT [0, 1, 2, 3, 6]) h n => pc s8 fun v10 s11 => pc s11 fun v12 s13 => pc s13 fun v14 s15 => pc s15 fun v16 s17 => pc s17 fun v18 s19 => evLoad tbx 227 v14 h fun v20 =>
 evMapUpd mtab 227 v20 v18 (.b true) h n fun _ h n => evLoad tbx 163 v12 h fun v21 =>
 cf 148 [v21, v10] h n fun v22 h n => evExt 0 v22 fun v23 => evExt 1 v22 fun v24 => evLoad tbx 173 v16 h fun v25 => evLoad tbx 173 v16 h fun v26 =>
 evNc' v26 fun v27 => evLoad tbx 29 v27 h fun v28 =>
 evBuild tbx 57 [(0, v18), (1, v23)] fun v29 => evLoad tbx 173 v16 h fun w39 => cond (eqV 6 w39 v25) ( evLoad tbx 173 v16 h fun w38 => cond (eqV 6 w38 v26) ( evLoad tbx 29 v27 h fun w37 => cond (eqV 6 w37 v28) (
 evBuildSl tbx 29 1 [(0, v29)] h n fun v30 h n => evLoad tbx 173 v16 h fun w36 => cond (eqV 6 w36 v25) ( evLoad tbx 173 v16 h fun w35 => cond (eqV 6 w35 v26) ( evLoad tbx 29 v27 h fun w34 => cond (eqV 6 w34 v28) (
 evApp tbx 29 29 v28 v30 h n fun v31 h n =>
 evNc' v25 fun v32 => evLoad tbx 173 v16 h fun w33 => cond (eqV 6 w33 v25) (
 evStore tbx 29 v32 v31 h n fun _ h n =>
 k v24 h n) none) none) none) none) none) none) none) fun kk9 => evLoad tbx 227 a2 h fun v40 =>
 evLook tbx mtab 227 v40 v7 false h fun v41 =>
 brB v41 (
 k (.i .i64 9) h n) ( evLoad tbx 173 a3 h fun v42 =>
 evNc' v42 fun v43 => evLoad tbx 29 v43 h fun v44 =>
 evLen tbx 29 v44 fun v45 => evBin2 tbx .geq 3 v45 (.i .i64 100) fun v46 =>
 brB v46 (
 k (.i .i64 3) h n) (
 kk9 (a0, a1, a2, a3, v7, ()) h n))
noncomputable def e151 : FE := ⟨Tryz.f151, bd Tryz.f151, [0, 1, 2, 3], [5], (.q .z (.q .z (.q (.b [0, 1, 2, 3, 6] (.q .z (.c (.q .z .z) (.q .z (.c (.q .z .z) .z))))) (.q .z (.q .z (.q .z (.q .z .z)))))))⟩
theorem q151 (fu : Nat) (cf : CF) (a0 a1 a2 a3 : V) (h : H) (n : Id) (k : KV) : evF fu cf e151 [a0, a1, a2, a3] h n k = s151 fu cf a0 a1 a2 a3 h n k := by kernel_rfl
theorem p151 : PfOk Tryz.prog tbx mtab 151 (w4 (s151 fuX)) := pfo e151 Tryz.func151 (by kernel_rfl) (w4_ok (q151 fuX))
noncomputable def s152 (fu : Nat) (cf : CF) (a0 a1 a2 : V) (h : H) (n : Id) (k : KV) : R :=
 evLoad tbx 163 a1 h fun v1 => evLoad tbx 163 a1 h fun v2 => evLoad tbx 175 a2 h fun v3 => evLoad tbx 163 a1 h fun w10 => cond (eqV 6 w10 v1) ( evLoad tbx 163 a1 h fun w9 => cond (eqV 6 w9 v2) ( evLoad tbx 175 a2 h fun w8 => cond (eqV 6 w8 v3) (
 cf 103 [v2, v3] h n fun v4 h n =>
 alB n fun n' => litA [((.s 12 31071133266037411630683874675), v4)] fun x mk => 
 (fun (v5 : V) h n => evLoad tbx 163 a1 h fun w7 => cond (eqV 6 w7 v1) (
 ckO (vId v5) h fun id x' => litA [((.s 12 31071133266037411630683874675), v4)] fun x mk => cond (eqO x' x) (cond (eqV 6 (mk id) v5) (
 cf 98 [v1, a0, v5] h n fun v6 h n =>
 k v6 h n) none) none) none) (mk n) (hset x n h) n') none) none) none
noncomputable def e152 : FE := ⟨Tryz.f152, bd Tryz.f152, [0, 1, 2], [4], (.q .z (.q .z .z))⟩
theorem q152 (fu : Nat) (cf : CF) (a0 a1 a2 : V) (h : H) (n : Id) (k : KV) : evF fu cf e152 [a0, a1, a2] h n k = s152 fu cf a0 a1 a2 h n k := by kernel_rfl
theorem p152 : PfOk Tryz.prog tbx mtab 152 (w3 (s152 fuX)) := pfo e152 Tryz.func152 (by kernel_rfl) (w3_ok (q152 fuX))
noncomputable def s153 (fu : Nat) (cf : CF) (a0 a1 a2 : V) (h : H) (n : Id) (k : KV) : R :=
 evLoad tbx 163 a1 h fun v1 =>
 let v2 : V := (.fn 155 [a1, a2])
 cf 154 [v1, a0, (.s 10 474107868439291559306105), (.i .i64 200), v2] h n fun v3 h n =>
 k v3 h n
noncomputable def e153 : FE := ⟨Tryz.f153, bd Tryz.f153, [0, 1, 2], [4], (.q .z (.q .z .z))⟩
theorem q153 (fu : Nat) (cf : CF) (a0 a1 a2 : V) (h : H) (n : Id) (k : KV) : evF fu cf e153 [a0, a1, a2] h n k = s153 fu cf a0 a1 a2 h n k := by kernel_rfl
theorem p153 : PfOk Tryz.prog tbx mtab 153 (w3 (s153 fuX)) := pfo e153 Tryz.func153 (by kernel_rfl) (w3_ok (q153 fuX))
noncomputable def s154 (fu : Nat) (cf : CF) (a0 a1 a2 a3 a4 : V) (h : H) (n : Id) (k : KV) : R :=
 evBox a0 h n fun v1 h n =>
 evBox a2 h n fun v2 h n =>
 evBox a3 h n fun v3 h n =>
 evBox a4 h n fun v4 h n =>
 evAlloc tbx 3 h n fun v5 h n =>
 evStore tbx 3 v5 (.i .i64 0) h n fun _ h n => evLoad tbx 163 v1 h fun v6 =>
 let v7 : V := (.fn 212 [v1, v2, v5, v3, v4])
 cf 145 [v6, a1, v7] h n fun v8 h n =>
 k v8 h n
noncomputable def e154 : FE := ⟨Tryz.f154, bd Tryz.f154, [0, 1, 2, 3, 4], [10], (.q .z (.q .z (.q .z .z)))⟩
theorem q154 (fu : Nat) (cf : CF) (a0 a1 a2 a3 a4 : V) (h : H) (n : Id) (k : KV) : evF fu cf e154 [a0, a1, a2, a3, a4] h n k = s154 fu cf a0 a1 a2 a3 a4 h n k := by kernel_rfl
theorem p154 : PfOk Tryz.prog tbx mtab 154 (w5 (s154 fuX)) := pfo e154 Tryz.func154 (by kernel_rfl) (w5_ok (q154 fuX))
noncomputable def s155 (fu : Nat) (cf : CF) (a0 a1 a2 : V) (h : H) (n : Id) (k : KV) : R :=
 evAlloc tbx 51 h n fun v1 h n => evLoad tbx 163 a1 h fun v2 => evLoad tbx 163 a1 h fun v3 => evFa tbx 51 0 v1 fun v4 => evLoad tbx 163 a1 h fun v5 => evFa tbx 51 1 v1 fun v6 => evLoad tbx 163 a1 h fun v7 => evFa tbx 51 2 v1 fun v8 => evLoad tbx 163 a1 h fun v9 => evFa tbx 51 3 v1 fun v10 => evLoad tbx 163 a1 h fun v11 => evFa tbx 51 4 v1 fun v12 => evLoad tbx 163 a1 h fun v13 => evFa tbx 51 5 v1 fun v14 => evLoad tbx 163 a1 h fun v15 => evFa tbx 51 6 v1 fun v16 => evLoad tbx 163 a1 h fun v17 => evFa tbx 51 7 v1 fun v18 => evLoad tbx 163 a1 h fun w95 => cond (eqV 6 w95 v2) ( evLoad tbx 163 a1 h fun w94 => cond (eqV 6 w94 v3) ( evLoad tbx 163 a1 h fun w93 => cond (eqV 6 w93 v5) ( evLoad tbx 163 a1 h fun w92 => cond (eqV 6 w92 v7) ( evLoad tbx 163 a1 h fun w91 => cond (eqV 6 w91 v9) ( evLoad tbx 163 a1 h fun w90 => cond (eqV 6 w90 v11) ( evLoad tbx 163 a1 h fun w89 => cond (eqV 6 w89 v13) ( evLoad tbx 163 a1 h fun w88 => cond (eqV 6 w88 v15) ( evLoad tbx 163 a1 h fun w87 => cond (eqV 6 w87 v17) (
 cf 99 [v3, v4] h n fun v19 h n => evLoad tbx 163 a1 h fun w86 => cond (eqV 6 w86 v2) ( evLoad tbx 163 a1 h fun w85 => cond (eqV 6 w85 v5) ( evLoad tbx 163 a1 h fun w84 => cond (eqV 6 w84 v7) ( evLoad tbx 163 a1 h fun w83 => cond (eqV 6 w83 v9) ( evLoad tbx 163 a1 h fun w82 => cond (eqV 6 w82 v11) ( evLoad tbx 163 a1 h fun w81 => cond (eqV 6 w81 v13) ( evLoad tbx 163 a1 h fun w80 => cond (eqV 6 w80 v15) ( evLoad tbx 163 a1 h fun w79 => cond (eqV 6 w79 v17) (
 cf 99 [v5, v6] h n fun v20 h n => evLoad tbx 163 a1 h fun w78 => cond (eqV 6 w78 v2) ( evLoad tbx 163 a1 h fun w77 => cond (eqV 6 w77 v7) ( evLoad tbx 163 a1 h fun w76 => cond (eqV 6 w76 v9) ( evLoad tbx 163 a1 h fun w75 => cond (eqV 6 w75 v11) ( evLoad tbx 163 a1 h fun w74 => cond (eqV 6 w74 v13) ( evLoad tbx 163 a1 h fun w73 => cond (eqV 6 w73 v15) ( evLoad tbx 163 a1 h fun w72 => cond (eqV 6 w72 v17) (
 cf 99 [v7, v8] h n fun v21 h n => evLoad tbx 163 a1 h fun w71 => cond (eqV 6 w71 v2) ( evLoad tbx 163 a1 h fun w70 => cond (eqV 6 w70 v9) ( evLoad tbx 163 a1 h fun w69 => cond (eqV 6 w69 v11) ( evLoad tbx 163 a1 h fun w68 => cond (eqV 6 w68 v13) ( evLoad tbx 163 a1 h fun w67 => cond (eqV 6 w67 v15) ( evLoad tbx 163 a1 h fun w66 => cond (eqV 6 w66 v17) (
 cf 99 [v9, v10] h n fun v22 h n => evLoad tbx 163 a1 h fun w65 => cond (eqV 6 w65 v2) ( evLoad tbx 163 a1 h fun w64 => cond (eqV 6 w64 v11) ( evLoad tbx 163 a1 h fun w63 => cond (eqV 6 w63 v13) ( evLoad tbx 163 a1 h fun w62 => cond (eqV 6 w62 v15) ( evLoad tbx 163 a1 h fun w61 => cond (eqV 6 w61 v17) (
 cf 99 [v11, v12] h n fun v23 h n => evLoad tbx 163 a1 h fun w60 => cond (eqV 6 w60 v2) ( evLoad tbx 163 a1 h fun w59 => cond (eqV 6 w59 v13) ( evLoad tbx 163 a1 h fun w58 => cond (eqV 6 w58 v15) ( evLoad tbx 163 a1 h fun w57 => cond (eqV 6 w57 v17) (
 cf 99 [v13, v14] h n fun v24 h n => evLoad tbx 163 a1 h fun w56 => cond (eqV 6 w56 v2) ( evLoad tbx 163 a1 h fun w55 => cond (eqV 6 w55 v15) ( evLoad tbx 163 a1 h fun w54 => cond (eqV 6 w54 v17) (
 cf 156 [v15, v16] h n fun v25 h n => evLoad tbx 163 a1 h fun w53 => cond (eqV 6 w53 v2) ( evLoad tbx 163 a1 h fun w52 => cond (eqV 6 w52 v17) (
 cf 157 [v17, v18] h n fun v26 h n =>
 alB n fun n' => litA [((.s 7 29117745638426980), v19), ((.s 10 460180866011107895298404), v20), ((.s 7 33325589488824174), v21), ((.s 4 1954115685), v22), ((.s 10 469513552247196035409266), v23), ((.s 5 495589486693), v24), ((.s 8 8030046131791487340), v25), ((.s 10 479179788288925102993011), v26)] fun x mk => 
 (fun (v27 : V) h n => evLoad tbx 163 a1 h fun w51 => cond (eqV 6 w51 v2) (
 ckO (vId v27) h fun id x' => litA [((.s 7 29117745638426980), v19), ((.s 10 460180866011107895298404), v20), ((.s 7 33325589488824174), v21), ((.s 4 1954115685), v22), ((.s 10 469513552247196035409266), v23), ((.s 5 495589486693), v24), ((.s 8 8030046131791487340), v25), ((.s 10 479179788288925102993011), v26)] fun x mk => cond (eqO x' x) (cond (eqV 6 (mk id) v27) (
 cf 98 [v2, a0, v27] h n fun v28 h n => evLoad tbx 175 a2 h fun v29 => evLoad tbx 175 a2 h fun v30 =>
 evNc' v30 fun v31 => evLoad tbx 30 v31 h fun v32 => evLoad tbx 51 v1 h fun v33 => evLoad tbx 175 a2 h fun w50 => cond (eqV 6 w50 v29) ( evLoad tbx 175 a2 h fun w49 => cond (eqV 6 w49 v30) ( evLoad tbx 30 v31 h fun w48 => cond (eqV 6 w48 v32) ( evLoad tbx 51 v1 h fun w47 => cond (eqV 6 w47 v33) (
 evBuildSl tbx 30 1 [(0, v33)] h n fun v34 h n => evLoad tbx 175 a2 h fun w46 => cond (eqV 6 w46 v29) ( evLoad tbx 175 a2 h fun w45 => cond (eqV 6 w45 v30) ( evLoad tbx 30 v31 h fun w44 => cond (eqV 6 w44 v32) (
 evApp tbx 30 30 v32 v34 h n fun v35 h n =>
 evNc' v29 fun v36 => evLoad tbx 175 a2 h fun w43 => cond (eqV 6 w43 v29) (
 evStore tbx 30 v36 v35 h n fun _ h n => evFa tbx 51 0 v1 fun v37 => evLoad tbx 9 v37 h fun v38 => evFa tbx 51 1 v1 fun v39 => evLoad tbx 9 v39 h fun v40 =>
 evBuildSl tbx 71 2 [(0, v38), (1, v40)] h n fun v41 h n =>
 cf 104 [v28, v41] h n fun v42 h n =>
 k v42 h n) none) none) none) none) none) none) none) none) none) none) none) (mk n) (hset x n h) n') none) none) none) none) none) none) none) none) none) none) none) none) none) none) none) none) none) none) none) none) none) none) none) none) none) none) none) none) none) none) none) none) none) none) none) none) none) none) none) none) none) none) none) none
noncomputable def e155 : FE := ⟨Tryz.f155, bd Tryz.f155, [0, 1, 2], [4], (.q .z (.q .z (.q .z (.q .z (.q .z .z)))))⟩
theorem q155 (fu : Nat) (cf : CF) (a0 a1 a2 : V) (h : H) (n : Id) (k : KV) : evF fu cf e155 [a0, a1, a2] h n k = s155 fu cf a0 a1 a2 h n k := by kernel_rfl
theorem p155 : PfOk Tryz.prog tbx mtab 155 (w3 (s155 fuX)) := pfo e155 Tryz.func155 (by kernel_rfl) (w3_ok (q155 fuX))
noncomputable def s156 (fu : Nat) (cf : CF) (a0 a1 : V) (h : H) (n : Id) (k : KV) : R :=
 evBox a0 h n fun v1 h n =>
 evBox a1 h n fun v2 h n =>
 let v3 : V := (.fn 213 [v1, v2])
 k v3 h n
noncomputable def e156 : FE := ⟨Tryz.f156, bd Tryz.f156, [0, 1], [4], (.q .z (.q .z .z))⟩
theorem q156 (fu : Nat) (cf : CF) (a0 a1 : V) (h : H) (n : Id) (k : KV) : evF fu cf e156 [a0, a1] h n k = s156 fu cf a0 a1 h n k := by kernel_rfl
theorem p156 : PfOk Tryz.prog tbx mtab 156 (w2 (s156 fuX)) := pfo e156 Tryz.func156 (by kernel_rfl) (w2_ok (q156 fuX))
noncomputable def s157 (fu : Nat) (cf : CF) (a0 a1 : V) (h : H) (n : Id) (k : KV) : R :=
 evBox a0 h n fun v1 h n =>
 evBox a1 h n fun v2 h n =>
 let v3 : V := (.fn 214 [v1, v2])
 k v3 h n
noncomputable def e157 : FE := ⟨Tryz.f157, bd Tryz.f157, [0, 1], [4], (.q .z (.q .z .z))⟩
theorem q157 (fu : Nat) (cf : CF) (a0 a1 : V) (h : H) (n : Id) (k : KV) : evF fu cf e157 [a0, a1] h n k = s157 fu cf a0 a1 h n k := by kernel_rfl
theorem p157 : PfOk Tryz.prog tbx mtab 157 (w2 (s157 fuX)) := pfo e157 Tryz.func157 (by kernel_rfl) (w2_ok (q157 fuX))
noncomputable def s158 (fu : Nat) (cf : CF) (a0 : V) (h : H) (n : Id) (k : KV) : R :=
 evLen tbx 71 a0 fun v1 =>
 jp (fun (s2 : VT []) h n =>
 k (.i .i64 0) h n) fun kk3 =>
 lpC [5, 6, 7] (fun lo5 s4 h n => pc s4 fun v6 s7 => pc s7 fun v8 s9 => pc s9 fun v10 s11 => evBin2 tbx .lss 3 v10 v8 fun v12 =>
 brB v12 (
 jp (fun (s13 : VT [5, 6, 7]) h n => pc s13 fun v15 s16 => pc s16 fun v17 s18 => pc s18 fun v19 s20 => evBin2 tbx .add 3 v19 (.i .i64 1) fun v21 =>
 lo5 (v15, v17, v21, ()) h n) fun kk14 => evIa tbx 71 v6 v10 fun v22 => evLoad tbx 9 v22 h fun v23 => evBin2 tbx .eql 9 v23 (.s 0 0) fun v24 =>
 brB v24 (
 k (.i .i64 10) h n) (
 kk14 (v6, v8, v10, ()) h n)) (
 kk3 (()) h n)) fu (a0, v1, (.i .i64 0), ()) h n
noncomputable def e158 : FE := ⟨Tryz.f158, bd Tryz.f158, [0], [2], (.q .z (.q (.q .z (.b [] (.l [5, 6, 7] (.q .z (.q (.c .z .z) (.q (.b [5, 6, 7] (.q .z (.q .z (.c (.q .z .z) .z)))) .z)))))) (.q .z .z)))⟩
theorem q158 (fu : Nat) (cf : CF) (a0 : V) (h : H) (n : Id) (k : KV) : evF fu cf e158 [a0] h n k = s158 fu cf a0 h n k := by kernel_rfl
theorem p158 : PfOk Tryz.prog tbx mtab 158 (w1 (s158 fuX)) := pfo e158 Tryz.func158 (by kernel_rfl) (w1_ok (q158 fuX))
noncomputable def s159 (fu : Nat) (cf : CF) (a0 : V) (h : H) (n : Id) (k : KV) : R :=
 jp (fun (s1 : VT [0]) h n => pc s1 fun v3 s4 =>
 evLen tbx 9 v3 fun v5 => evBin2 tbx .geq 3 v5 (.i .i64 1) fun v6 =>
 jp (fun (v7 : V) h n =>
 jp (fun (v9 : V) h n =>
 jp (fun (v11 : V) h n => evPick v6 v11 (.b false) fun v13 =>
 k v13 h n) fun kk12 =>
 gdB v6 true ((evBin2 tbx .leq 3 v9 (.i .i64 100) fun v => kk12 v h n)) (kk12 (.tp []) h n)) fun kk10 =>
 gdB v6 true ((evLen tbx 9 v7 fun v => kk10 v h n)) (kk10 (.tp []) h n)) fun kk8 =>
 gdB v6 true (kk8 v3 h n) (kk8 (.tp []) h n)) fun kk2 =>
 lpC [0, 3] (fun lo15 s14 h n => pc s14 fun v16 s17 => pc s17 fun v18 s19 =>
 evLen tbx 9 v16 fun v20 => evBin2 tbx .lss 3 v18 v20 fun v21 =>
 brB v21 (
 jp (fun (s22 : VT [0, 3]) h n => pc s22 fun v24 s25 => pc s25 fun v26 s27 => evBin2 tbx .add 3 v26 (.i .i64 1) fun v28 =>
 lo15 (v24, v28, ()) h n) fun kk23 =>
 evIx tbx 9 v16 v18 fun v29 => evBin2 tbx .lss 5 v29 (.i .u8 33) fun v30 =>
 jp (fun (v31 : V) h n =>
 jp (fun (v33 : V) h n => evPick v30 (.b true) v33 fun v35 =>
 jp (fun (v36 : V) h n =>
 jp (fun (v38 : V) h n => evPick v35 (.b true) v38 fun v40 =>
 jp (fun (v41 : V) h n =>
 jp (fun (v43 : V) h n => evPick v40 (.b true) v43 fun v45 =>
 jp (fun (v46 : V) h n =>
 jp (fun (v48 : V) h n => evPick v45 (.b true) v48 fun v50 =>
 jp (fun (v51 : V) h n =>
 jp (fun (v53 : V) h n => evPick v50 (.b true) v53 fun v55 =>
 jp (fun (v56 : V) h n =>
 jp (fun (v58 : V) h n => evPick v55 (.b true) v58 fun v60 =>
 brB v60 (
 k (.b false) h n) (
 kk23 (v16, v18, ()) h n)) fun kk59 =>
 gdB v55 false ((evBin2 tbx .eql 5 v56 (.i .u8 44) fun v => kk59 v h n)) (kk59 (.tp []) h n)) fun kk57 =>
 gdB v55 false (kk57 v29 h n) (kk57 (.tp []) h n)) fun kk54 =>
 gdB v50 false ((evBin2 tbx .eql 5 v51 (.i .u8 41) fun v => kk54 v h n)) (kk54 (.tp []) h n)) fun kk52 =>
 gdB v50 false (kk52 v29 h n) (kk52 (.tp []) h n)) fun kk49 =>
 gdB v45 false ((evBin2 tbx .eql 5 v46 (.i .u8 40) fun v => kk49 v h n)) (kk49 (.tp []) h n)) fun kk47 =>
 gdB v45 false (kk47 v29 h n) (kk47 (.tp []) h n)) fun kk44 =>
 gdB v40 false ((evBin2 tbx .eql 5 v41 (.i .u8 93) fun v => kk44 v h n)) (kk44 (.tp []) h n)) fun kk42 =>
 gdB v40 false (kk42 v29 h n) (kk42 (.tp []) h n)) fun kk39 =>
 gdB v35 false ((evBin2 tbx .eql 5 v36 (.i .u8 91) fun v => kk39 v h n)) (kk39 (.tp []) h n)) fun kk37 =>
 gdB v35 false (kk37 v29 h n) (kk37 (.tp []) h n)) fun kk34 =>
 gdB v30 false ((evBin2 tbx .gtr 5 v31 (.i .u8 126) fun v => kk34 v h n)) (kk34 (.tp []) h n)) fun kk32 =>
 gdB v30 false (kk32 v29 h n) (kk32 (.tp []) h n)) (
 kk2 (v16, ()) h n)) fu (a0, (.i .i64 0), ()) h n
noncomputable def e159 : FE := ⟨Tryz.f159, bd Tryz.f159, [0], [2], (.q .z (.q (.q .z (.b [0] (.l [0, 3] (.q (.q .z (.c .z .z)) (.q (.b [0, 3] (.q .z (.q .z (.c (.q .z .z) .z)))) .z))))) (.q .z .z)))⟩
theorem q159 (fu : Nat) (cf : CF) (a0 : V) (h : H) (n : Id) (k : KV) : evF fu cf e159 [a0] h n k = s159 fu cf a0 h n k := by kernel_rfl
theorem p159 : PfOk Tryz.prog tbx mtab 159 (w1 (s159 fuX)) := pfo e159 Tryz.func159 (by kernel_rfl) (w1_ok (q159 fuX))
noncomputable def s160 (fu : Nat) (cf : CF) (a0 : V) (h : H) (n : Id) (k : KV) : R :=
 jp (fun (s1 : VT []) h n =>
 k (.b false) h n) fun kk2 =>
 lpC [0, 3] (fun lo4 s3 h n => pc s3 fun v5 s6 => pc s6 fun v7 s8 =>
 evLen tbx 9 v5 fun v9 => evBin2 tbx .lss 3 v7 v9 fun v10 =>
 brB v10 (
 jp (fun (s11 : VT [0, 3]) h n => pc s11 fun v13 s14 => pc s14 fun v15 s16 => evBin2 tbx .add 3 v15 (.i .i64 1) fun v17 =>
 lo4 (v13, v17, ()) h n) fun kk12 =>
 evIx tbx 9 v5 v7 fun v18 => evBin2 tbx .eql 5 v18 (.i .u8 58) fun v19 =>
 brB v19 (
 k (.b true) h n) (
 kk12 (v5, v7, ()) h n)) (
 kk2 (()) h n)) fu (a0, (.i .i64 0), ()) h n
noncomputable def e160 : FE := ⟨Tryz.f160, bd Tryz.f160, [0], [2], (.q .z (.q (.q .z (.b [] (.l [0, 3] (.q (.q .z (.c .z .z)) (.q (.b [0, 3] (.q .z (.c (.q .z .z) .z))) .z))))) (.q .z .z)))⟩
theorem q160 (fu : Nat) (cf : CF) (a0 : V) (h : H) (n : Id) (k : KV) : evF fu cf e160 [a0] h n k = s160 fu cf a0 h n k := by kernel_rfl
theorem p160 : PfOk Tryz.prog tbx mtab 160 (w1 (s160 fuX)) := pfo e160 Tryz.func160 (by kernel_rfl) (w1_ok (q160 fuX))
noncomputable def s161 (fu : Nat) (cf : CF) (a0 a1 : V) (h : H) (n : Id) (k : KV) : R :=
 evBox a0 h n fun v1 h n =>
 evAlloc tbx 32 h n fun v2 h n => evFa tbx 24 0 v1 fun v3 => evLoad tbx 9 v3 h fun v4 => evFa tbx 24 2 v1 fun v5 => evLoad tbx 9 v5 h fun v6 =>
 evBuild tbx 32 [(1, v4), (3, v6), (4, (.s 3 6971762))] fun v7 =>
 evAlloc tbx 32 h n fun v8 h n =>
 evStore tbx 32 v8 v7 h n fun _ h n =>
 evLen tbx 41 a1 fun v9 =>
 jp (fun (s10 : VT [4, 6]) h n => pc s10 fun v12 s13 => pc s13 fun v14 s15 => evFa tbx 32 5 v14 fun v16 => evLoad tbx 29 v16 h fun v17 => evFa tbx 32 6 v14 fun v18 => evLoad tbx 30 v18 h fun v19 => evFa tbx 32 7 v14 fun v20 => evLoad tbx 30 v20 h fun v21 => evLoad tbx 29 v16 h fun w59 => cond (eqV 6 w59 v17) ( evLoad tbx 30 v18 h fun w58 => cond (eqV 6 w58 v19) ( evLoad tbx 30 v20 h fun w57 => cond (eqV 6 w57 v21) (
 cf 216 [v17] h n fun v22 h n => evFa tbx 32 5 v14 fun v23 => evLoad tbx 30 v18 h fun w56 => cond (eqV 6 w56 v19) ( evLoad tbx 30 v20 h fun w55 => cond (eqV 6 w55 v21) (
 cf 217 [v19] h n fun v24 h n => evLoad tbx 30 v20 h fun w54 => cond (eqV 6 w54 v21) (
 cf 217 [v21] h n fun v25 h n =>
 evStore tbx 29 v23 v22 h n fun _ h n => evFa tbx 32 6 v14 fun v26 =>
 evStore tbx 30 v26 v24 h n fun _ h n => evFa tbx 32 7 v14 fun v27 =>
 evStore tbx 30 v27 v25 h n fun _ h n => evFa tbx 32 5 v14 fun v28 => evLoad tbx 29 v28 h fun v29 =>
 evLen tbx 29 v29 fun v30 => evBin2 tbx .gtr 3 v30 (.i .i64 100) fun v31 =>
 jp (fun (v32 : V) h n =>
 jp (fun (v34 : V) h n =>
 jp (fun (v36 : V) h n =>
 jp (fun (v38 : V) h n => evPick v31 (.b true) v38 fun v40 =>
 jp (fun (v41 : V) h n =>
 jp (fun (v43 : V) h n =>
 jp (fun (v45 : V) h n =>
 jp (fun (v47 : V) h n => evPick v40 (.b true) v47 fun v49 =>
 brB v49 (
 evBuild tbx 32 [] fun v50 =>
 evStore tbx 32 v12 v50 h n fun _ h n => evLoad tbx 32 v12 h fun v51 =>
 k (.tp [v51, (.i .i64 3)]) h n) ( evLoad tbx 32 v14 h fun v52 =>
 evStore tbx 32 v12 v52 h n fun _ h n => evLoad tbx 32 v12 h fun v53 =>
 k (.tp [v53, (.i .i64 0)]) h n)) fun kk48 =>
 gdB v40 false ((evBin2 tbx .gtr 3 v45 (.i .i64 200) fun v => kk48 v h n)) (kk48 (.tp []) h n)) fun kk46 =>
 gdB v40 false ((evLen tbx 30 v43 fun v => kk46 v h n)) (kk46 (.tp []) h n)) fun kk44 =>
 gdB v40 false ((evLoad tbx 30 v41 h fun v => kk44 v h n)) (kk44 (.tp []) h n)) fun kk42 =>
 gdB v40 false ((evFa tbx 32 7 v14 fun v => kk42 v h n)) (kk42 (.tp []) h n)) fun kk39 =>
 gdB v31 false ((evBin2 tbx .gtr 3 v36 (.i .i64 200) fun v => kk39 v h n)) (kk39 (.tp []) h n)) fun kk37 =>
 gdB v31 false ((evLen tbx 30 v34 fun v => kk37 v h n)) (kk37 (.tp []) h n)) fun kk35 =>
 gdB v31 false ((evLoad tbx 30 v32 h fun v => kk35 v h n)) (kk35 (.tp []) h n)) fun kk33 =>
 gdB v31 false ((evFa tbx 32 6 v14 fun v => kk33 v h n)) (kk33 (.tp []) h n)) none) none) none) none) none) none) fun kk11 =>
 lpC [4, 6, 14, 15, 16] (fun lo61 s60 h n => pc s60 fun v62 s63 => pc s63 fun v64 s65 => pc s65 fun v66 s67 => pc s67 fun v68 s69 => pc s69 fun v70 s71 => evBin2 tbx .lss 3 v70 v68 fun v72 =>
 brB v72 (
 jp (fun (s73 : VT [4, 6, 14, 15, 16]) h n => pc s73 fun v75 s76 => pc s76 fun v77 s78 => pc s78 fun v79 s80 => pc s80 fun v81 s82 => pc s82 fun v83 s84 => evBin2 tbx .add 3 v83 (.i .i64 1) fun v85 =>
 lo61 (v75, v77, v79, v81, v85, ()) h n) fun kk74 => evIa tbx 41 v66 v70 fun v86 => evLoad tbx 32 v86 h fun v87 =>
 evAlloc tbx 32 h n fun v88 h n =>
 evStore tbx 32 v88 v87 h n fun _ h n =>
 jp (fun (s89 : VT [4, 6, 8, 14, 15, 16]) h n => pc s89 fun v91 s92 => pc s92 fun v93 s94 => pc s94 fun v95 s96 => pc s96 fun v97 s98 => pc s98 fun v99 s100 => pc s100 fun v101 s102 => evFa tbx 32 5 v93 fun v103 => evLoad tbx 29 v103 h fun v104 => evFa tbx 32 5 v95 fun v105 => evLoad tbx 29 v105 h fun v106 => evFa tbx 32 6 v93 fun v107 => evLoad tbx 30 v107 h fun v108 => evFa tbx 32 6 v95 fun v109 => evLoad tbx 30 v109 h fun v110 => evFa tbx 32 7 v93 fun v111 => evLoad tbx 30 v111 h fun v112 => evFa tbx 32 7 v95 fun v113 => evLoad tbx 30 v113 h fun v114 => evLoad tbx 29 v103 h fun w132 => cond (eqV 6 w132 v104) ( evLoad tbx 29 v105 h fun w131 => cond (eqV 6 w131 v106) ( evLoad tbx 30 v107 h fun w130 => cond (eqV 6 w130 v108) ( evLoad tbx 30 v109 h fun w129 => cond (eqV 6 w129 v110) ( evLoad tbx 30 v111 h fun w128 => cond (eqV 6 w128 v112) ( evLoad tbx 30 v113 h fun w127 => cond (eqV 6 w127 v114) (
 evApp tbx 29 29 v104 v106 h n fun v115 h n => evFa tbx 32 5 v93 fun v116 => evLoad tbx 30 v107 h fun w126 => cond (eqV 6 w126 v108) ( evLoad tbx 30 v109 h fun w125 => cond (eqV 6 w125 v110) ( evLoad tbx 30 v111 h fun w124 => cond (eqV 6 w124 v112) ( evLoad tbx 30 v113 h fun w123 => cond (eqV 6 w123 v114) (
 evApp tbx 30 30 v108 v110 h n fun v117 h n => evLoad tbx 30 v111 h fun w122 => cond (eqV 6 w122 v112) ( evLoad tbx 30 v113 h fun w121 => cond (eqV 6 w121 v114) (
 evApp tbx 30 30 v112 v114 h n fun v118 h n =>
 evStore tbx 29 v116 v115 h n fun _ h n => evFa tbx 32 6 v93 fun v119 =>
 evStore tbx 30 v119 v117 h n fun _ h n => evFa tbx 32 7 v93 fun v120 =>
 evStore tbx 30 v120 v118 h n fun _ h n =>
 kk74 (v91, v93, v97, v99, v101, ()) h n) none) none) none) none) none) none) none) none) none) none) none) none) fun kk90 => evBin2 tbx .eql 3 v70 (.i .i64 0) fun v133 =>
 brB v133 ( evFa tbx 32 2 v88 fun v134 => evLoad tbx 9 v134 h fun v135 => evFa tbx 32 4 v88 fun v136 => evLoad tbx 9 v136 h fun v137 => evFa tbx 32 2 v64 fun v138 => evLoad tbx 9 v134 h fun w145 => cond (eqV 6 w145 v135) ( evLoad tbx 9 v136 h fun w144 => cond (eqV 6 w144 v137) (
 evBuildSl tbx 71 2 [(0, v137), (1, (.s 3 6971762))] h n fun v139 h n => evLoad tbx 9 v134 h fun w143 => cond (eqV 6 w143 v135) (
 cf 42 [v139] h n fun v140 h n => evLoad tbx 9 v134 h fun w142 => cond (eqV 6 w142 v135) (
 evStore tbx 9 v138 v135 h n fun _ h n => evFa tbx 32 4 v64 fun v141 =>
 evStore tbx 9 v141 v140 h n fun _ h n =>
 kk90 (v62, v64, v88, v66, v68, v70, ()) h n) none) none) none) none) (
 kk90 (v62, v64, v88, v66, v68, v70, ()) h n)) (
 kk11 (v62, v64, ()) h n)) fu (v2, v8, a1, v9, (.i .i64 0), ()) h n
noncomputable def e161 : FE := ⟨Tryz.f161, bd Tryz.f161, [0, 1], [4, 5], (.q .z (.q .z (.q (.q .z (.b [4, 6] (.l [4, 6, 14, 15, 16] (.q .z (.q (.c .z .z) (.q (.b [4, 6, 14, 15, 16] (.q .z (.s [4, 6, 8, 14, 15, 16] (.q .z (.c .z .z)) .z))) .z)))))) (.q .z (.q (.q .z (.c (.q .z .z) .z)) (.q .z .z))))))⟩
theorem q161 (fu : Nat) (cf : CF) (a0 a1 : V) (h : H) (n : Id) (k : KV) : evF fu cf e161 [a0, a1] h n k = s161 fu cf a0 a1 h n k := by kernel_rfl
theorem p161 : PfOk Tryz.prog tbx mtab 161 (w2 (s161 fuX)) := pfo e161 Tryz.func161 (by kernel_rfl) (w2_ok (q161 fuX))
noncomputable def s162 (fu : Nat) (cf : CF) (a0 : V) (h : H) (n : Id) (k : KV) : R :=
 evMkMap h n fun v1 h n =>
 evMkMap h n fun v2 h n =>
 evBuild tbx 274 [(0, v1), (1, v2)] fun v3 =>
 evBox v3 h n fun v4 h n =>
 evLen tbx 29 a0 fun v5 =>
 jp (fun (s6 : VT [3]) h n => pc s6 fun v8 s9 =>
 k v8 h n) fun kk7 =>
 lpC [3, 12, 13, 14] (fun lo11 s10 h n => pc s10 fun v12 s13 => pc s13 fun v14 s15 => pc s15 fun v16 s17 => pc s17 fun v18 s19 => evBin2 tbx .lss 3 v18 v16 fun v20 =>
 brB v20 (
 jp (fun (s21 : VT [3, 12, 13, 14]) h n => pc s21 fun v23 s24 => pc s24 fun v25 s26 => pc s26 fun v27 s28 => pc s28 fun v29 s30 => evBin2 tbx .add 3 v29 (.i .i64 1) fun v31 =>
 lo11 (v23, v25, v27, v31, ()) h n) fun kk22 => evIa tbx 29 v14 v18 fun v32 => evLoad tbx 57 v32 h fun v33 =>
 evAlloc tbx 57 h n fun v34 h n =>
 evStore tbx 57 v34 v33 h n fun _ h n =>
 evNc' v12 fun v35 => evFa tbx 274 0 v35 fun v36 => evLoad tbx 271 v36 h fun v37 => evFa tbx 57 0 v34 fun v38 => evLoad tbx 9 v38 h fun v39 =>
 evLook tbx mtab 271 v37 v39 true h fun v40 => evExt 0 v40 fun v41 => evExt 1 v40 fun v42 => evLoad tbx 271 v36 h fun w56 => cond (eqV 6 w56 v37) ( evLoad tbx 9 v38 h fun w55 => cond (eqV 6 w55 v39) (
 evLook tbx mtab 271 v37 v39 true h fun w54 => cond (eqV 6 w54 v40) (
 evUn .not v42 fun v43 =>
 brB v43 (
 evNc' v12 fun v44 => evFa tbx 274 0 v44 fun v45 => evLoad tbx 271 v45 h fun v46 => evFa tbx 57 0 v34 fun v47 => evLoad tbx 9 v47 h fun v48 => evFa tbx 57 1 v34 fun v49 => evLoad tbx 9 v49 h fun v50 => evLoad tbx 271 v45 h fun w53 => cond (eqV 6 w53 v46) ( evLoad tbx 9 v47 h fun w52 => cond (eqV 6 w52 v48) ( evLoad tbx 9 v49 h fun w51 => cond (eqV 6 w51 v50) (
 evMapUpd mtab 271 v46 v48 v50 h n fun _ h n =>
 kk22 (v12, v14, v16, v18, ()) h n) none) none) none) (
 kk22 (v12, v14, v16, v18, ()) h n)) none) none) none) (
 kk7 (v12, ()) h n)) fu (v4, a0, v5, (.i .i64 0), ()) h n
noncomputable def e162 : FE := ⟨Tryz.f162, bd Tryz.f162, [0], [2], (.q .z (.q .z (.q (.q .z (.b [3] (.l [3, 12, 13, 14] (.q .z (.q (.c .z .z) (.q (.b [3, 12, 13, 14] (.q .z (.q .z (.q .z (.c .z .z))))) .z)))))) (.q .z .z))))⟩
theorem q162 (fu : Nat) (cf : CF) (a0 : V) (h : H) (n : Id) (k : KV) : evF fu cf e162 [a0] h n k = s162 fu cf a0 h n k := by kernel_rfl
theorem p162 : PfOk Tryz.prog tbx mtab 162 (w1 (s162 fuX)) := pfo e162 Tryz.func162 (by kernel_rfl) (w1_ok (q162 fuX))
noncomputable def s163 (fu : Nat) (cf : CF) (a0 a1 : V) (h : H) (n : Id) (k : KV) : R :=
 evBox a0 h n fun v1 h n => evFa tbx 24 0 v1 fun v2 => evLoad tbx 9 v2 h fun v3 =>
 evBuild tbx 57 [(0, (.s 15 583858270104738274456757006937114980)), (1, v3)] fun v4 => evFa tbx 24 1 v1 fun v5 => evLoad tbx 9 v5 h fun v6 =>
 evBuild tbx 57 [(0, (.s 18 9795516310933536653999961122899636987906404)), (1, v6)] fun v7 => evFa tbx 24 2 v1 fun v8 => evLoad tbx 9 v8 h fun v9 =>
 evBuild tbx 57 [(0, (.s 15 583858270104738274460964850787512174)), (1, v9)] fun v10 =>
 evBuildSl tbx 29 3 [(0, v4), (1, v7), (2, v10)] h n fun v11 h n =>
 evLen tbx 29 a1 fun v12 =>
 jp (fun (s13 : VT [5]) h n => pc s13 fun v15 s16 =>
 k v15 h n) fun kk14 =>
 lpC [5, 18, 19, 20] (fun lo18 s17 h n => pc s17 fun v19 s20 => pc s20 fun v21 s22 => pc s22 fun v23 s24 => pc s24 fun v25 s26 => evBin2 tbx .lss 3 v25 v23 fun v27 =>
 brB v27 (
 jp (fun (s28 : VT [5, 18, 19, 20]) h n => pc s28 fun v30 s31 => pc s31 fun v32 s33 => pc s33 fun v34 s35 => pc s35 fun v36 s37 => evBin2 tbx .add 3 v36 (.i .i64 1) fun v38 =>
 lo18 (v30, v32, v34, v38, ()) h n) fun kk29 => evIa tbx 29 v21 v25 fun v39 => evLoad tbx 57 v39 h fun v40 =>
 evAlloc tbx 57 h n fun v41 h n =>
 evStore tbx 57 v41 v40 h n fun _ h n =>
 evSlc tbx 29 v19 none (some (.i .i64 3)) fun v42 =>
 let v43 : V := (.fn 219 [v41])
 cf 218 [v42, v43] h n fun v44 h n =>
 evUn .not v44 fun v45 =>
 brB v45 ( evLoad tbx 57 v41 h fun v46 =>
 evBuildSl tbx 29 1 [(0, v46)] h n fun v47 h n =>
 evApp tbx 29 29 v19 v47 h n fun v48 h n =>
 kk29 (v48, v21, v23, v25, ()) h n) (
 kk29 (v19, v21, v23, v25, ()) h n)) (
 kk14 (v19, ()) h n)) fu (v11, a1, v12, (.i .i64 0), ()) h n
noncomputable def e163 : FE := ⟨Tryz.f163, bd Tryz.f163, [0, 1], [4], (.q .z (.q .z (.q (.q .z (.b [5] (.l [5, 18, 19, 20] (.q .z (.q (.c .z .z) (.q (.b [5, 18, 19, 20] (.q .z (.q .z (.c .z .z)))) .z)))))) (.q .z .z))))⟩
theorem q163 (fu : Nat) (cf : CF) (a0 a1 : V) (h : H) (n : Id) (k : KV) : evF fu cf e163 [a0, a1] h n k = s163 fu cf a0 a1 h n k := by kernel_rfl
theorem p163 : PfOk Tryz.prog tbx mtab 163 (w2 (s163 fuX)) := pfo e163 Tryz.func163 (by kernel_rfl) (w2_ok (q163 fuX))
noncomputable def s164 (fu : Nat) (cf : CF) (a0 a1 : V) (h : H) (n : Id) (k : KV) : R :=
 evLen tbx 29 a1 fun v1 =>
 jp (fun (s2 : VT [6]) h n => pc s2 fun v4 s5 =>
 k (.tp [v4, (.i .i64 0)]) h n) fun kk3 =>
 lpC [0, 6, 12, 13, 14] (fun lo7 s6 h n => pc s6 fun v8 s9 => pc s9 fun v10 s11 => pc s11 fun v12 s13 => pc s13 fun v14 s15 => pc s15 fun v16 s17 => evBin2 tbx .lss 3 v16 v14 fun v18 =>
 brB v18 (
 jp (fun (s19 : VT [0, 6, 12, 13, 14]) h n => pc s19 fun v21 s22 => pc s22 fun v23 s24 => pc s24 fun v25 s26 => pc s26 fun v27 s28 => pc s28 fun v29 s30 => evBin2 tbx .add 3 v29 (.i .i64 1) fun v31 =>
 lo7 (v21, v23, v25, v27, v31, ()) h n) fun kk20 => evIa tbx 29 v12 v16 fun v32 => evLoad tbx 57 v32 h fun v33 =>
 evAlloc tbx 57 h n fun v34 h n =>
 evStore tbx 57 v34 v33 h n fun _ h n =>
 jp (fun (s35 : VT [0, 6, 8, 9, 12, 13, 14]) h n => pc s35 fun v37 s38 => pc s38 fun v39 s40 => pc s40 fun v41 s42 => pc s42 fun v43 s44 => pc s44 fun v45 s46 => pc s46 fun v47 s48 => pc s48 fun v49 s50 => evFa tbx 57 1 v41 fun v51 => evLoad tbx 9 v51 h fun v52 => evFa tbx 57 0 v41 fun v53 => evLoad tbx 9 v53 h fun v54 =>
 cf 220 [v43, v52, v54, (.b true)] h n fun v55 h n => evExt 0 v55 fun v56 => evExt 1 v55 fun v57 => evBin2 tbx .neq 33 v57 (.i .i64 0) fun v58 =>
 brB v58 (
 k (.tp [.ns, v57]) h n) ( evFa tbx 57 0 v41 fun v59 => evLoad tbx 9 v59 h fun v60 =>
 evBuild tbx 57 [(0, v60), (1, v56)] fun v61 =>
 evBuildSl tbx 29 1 [(0, v61)] h n fun v62 h n =>
 evApp tbx 29 29 v39 v62 h n fun v63 h n =>
 kk20 (v37, v63, v45, v47, v49, ()) h n)) fun kk36 => evFa tbx 57 1 v34 fun v64 => evLoad tbx 9 v64 h fun v65 =>
 evNc' v8 fun v66 => evFa tbx 274 0 v66 fun v67 => evLoad tbx 271 v67 h fun v68 => evFa tbx 57 0 v34 fun v69 => evLoad tbx 9 v69 h fun v70 =>
 evLook tbx mtab 271 v68 v70 false h fun v71 => evBin2 tbx .neq 9 v65 v71 fun v72 => evLoad tbx 9 v64 h fun w82 => cond (eqV 6 w82 v65) ( evLoad tbx 271 v67 h fun w81 => cond (eqV 6 w81 v68) ( evLoad tbx 9 v69 h fun w80 => cond (eqV 6 w80 v70) (
 evLook tbx mtab 271 v68 v70 false h fun w79 => cond (eqV 6 w79 v71) (
 brB v72 (
 evNc' v8 fun v73 => evFa tbx 274 0 v73 fun v74 => evLoad tbx 271 v74 h fun v75 =>
 evMkMap h n fun v76 h n =>
 evBuild tbx 274 [(0, v75), (1, v76)] fun v77 =>
 evBox v77 h n fun v78 h n =>
 kk36 (v8, v10, v34, v78, v12, v14, v16, ()) h n) (
 kk36 (v8, v10, v34, v8, v12, v14, v16, ()) h n)) none) none) none) none) (
 kk3 (v10, ()) h n)) fu (a0, .ns, a1, v1, (.i .i64 0), ()) h n
noncomputable def e164 : FE := ⟨Tryz.f164, bd Tryz.f164, [0, 1], [4, 5], (.q .z (.q .z (.q (.q .z (.b [6] (.l [0, 6, 12, 13, 14] (.q .z (.q (.c .z .z) (.q (.b [0, 6, 12, 13, 14] (.q .z (.q .z (.s [0, 6, 8, 9, 12, 13, 14] (.q .z (.c .z .z)) (.q .z (.q (.q .z (.c (.q .z .z) .z)) .z)))))) .z)))))) (.q .z .z))))⟩
theorem q164 (fu : Nat) (cf : CF) (a0 a1 : V) (h : H) (n : Id) (k : KV) : evF fu cf e164 [a0, a1] h n k = s164 fu cf a0 a1 h n k := by kernel_rfl
theorem p164 : PfOk Tryz.prog tbx mtab 164 (w2 (s164 fuX)) := pfo e164 Tryz.func164 (by kernel_rfl) (w2_ok (q164 fuX))
noncomputable def s165 (fu : Nat) (cf : CF) (a0 a1 : V) (h : H) (n : Id) (k : KV) : R :=
 jp (fun (s3 : VT [4]) h n => pc s3 fun v6 s7 =>
 k v6 h n) fun kk1 =>
 jp (lpC [0, 1] (fun lo5 s4 h n => pc s4 fun v8 s9 => pc s9 fun v10 s11 =>
 evLen tbx 278 v10 fun v12 => evBin2 tbx .eql 3 v12 (.i .i64 0) fun v13 =>
 brB v13 (
 k (.i .i64 0) h n) ( evIa tbx 278 v10 (.i .i64 0) fun v14 => evLoad tbx 169 v14 h fun v15 =>
 evNc' v15 fun v16 => evLoad tbx 9 v16 h fun v17 =>
 cf 220 [v8, v17, (.s 0 0), (.b false)] h n fun v18 h n => evExt 0 v18 fun v19 => evExt 1 v18 fun v20 => evBin2 tbx .neq 33 v20 (.i .i64 0) fun v21 =>
 brB v21 (
 k v20 h n) ( evIa tbx 278 v10 (.i .i64 0) fun v22 => evLoad tbx 169 v22 h fun v23 =>
 evNc' v23 fun v24 =>
 evStore tbx 9 v24 v19 h n fun _ h n =>
 evSlc tbx 278 v10 (some (.i .i64 1)) none fun v25 =>
 lo5 (v8, v25, ()) h n))) fu) fun lo2 =>
 evLen tbx 278 a1 fun v26 => evBin2 tbx .eql 3 v26 (.i .i64 0) fun v27 =>
 brB v27 (
 k (.i .i64 0) h n) ( evIa tbx 278 a1 (.i .i64 0) fun v28 => evLoad tbx 169 v28 h fun v29 =>
 evNc' v29 fun v30 => evLoad tbx 9 v30 h fun v31 =>
 cf 220 [a0, v31, (.s 0 0), (.b false)] h n fun v32 h n => evExt 0 v32 fun v33 => evExt 1 v32 fun v34 => evBin2 tbx .neq 33 v34 (.i .i64 0) fun v35 =>
 brB v35 (
 k v34 h n) ( evIa tbx 278 a1 (.i .i64 0) fun v36 => evLoad tbx 169 v36 h fun v37 =>
 evNc' v37 fun v38 =>
 evStore tbx 9 v38 v33 h n fun _ h n =>
 evSlc tbx 278 a1 (some (.i .i64 1)) none fun v39 =>
 lo2 (a0, v39, ()) h n))
noncomputable def e165 : FE := ⟨Tryz.f165, bd Tryz.f165, [0, 1], [4], (.q .z (.g 0 [0, 1] [4] (.q .z (.q (.q .z (.c (.q .z .z) .z)) (.q .z (.q (.q .z (.c (.q .z .z) .z)) (.q .z (.q .z .z)))))) (.q .z (.q (.q .z (.c (.q .z .z) .z)) (.q .z (.q (.q .z (.c (.q .z .z) .z)) (.q .z (.q .z .z))))))))⟩
theorem q165 (fu : Nat) (cf : CF) (a0 a1 : V) (h : H) (n : Id) (k : KV) : evF fu cf e165 [a0, a1] h n k = s165 fu cf a0 a1 h n k := by kernel_rfl
theorem p165 : PfOk Tryz.prog tbx mtab 165 (w2 (s165 fuX)) := pfo e165 Tryz.func165 (by kernel_rfl) (w2_ok (q165 fuX))
noncomputable def s166 (fu : Nat) (cf : CF) (a0 a1 a2 : V) (h : H) (n : Id) (k : KV) : R :=
 evLen tbx 30 a1 fun v1 =>
 jp (fun (s2 : VT [8]) h n => pc s2 fun v4 s5 =>
 k (.tp [v4, (.i .i64 0)]) h n) fun kk3 =>
 lpC [0, 2, 8, 13, 14, 15] (fun lo7 s6 h n => pc s6 fun v8 s9 => pc s9 fun v10 s11 => pc s11 fun v12 s13 => pc s13 fun v14 s15 => pc s15 fun v16 s17 => pc s17 fun v18 s19 => evBin2 tbx .lss 3 v18 v16 fun v20 =>
 brB v20 (
 jp (fun (s21 : VT [0, 2, 8, 13, 14, 15]) h n => pc s21 fun v23 s24 => pc s24 fun v25 s26 => pc s26 fun v27 s28 => pc s28 fun v29 s30 => pc s30 fun v31 s32 => pc s32 fun v33 s34 => evBin2 tbx .add 3 v33 (.i .i64 1) fun v35 =>
 lo7 (v23, v25, v27, v29, v31, v35, ()) h n) fun kk22 => evIa tbx 30 v14 v18 fun v36 => evLoad tbx 51 v36 h fun v37 =>
 evAlloc tbx 51 h n fun v38 h n =>
 evStore tbx 51 v38 v37 h n fun _ h n => evLoad tbx 51 v38 h fun v39 =>
 cf 221 [v8, v39, v10] h n fun v40 h n => evExt 0 v40 fun v41 => evExt 1 v40 fun v42 =>
 evAlloc tbx 51 h n fun v43 h n =>
 evStore tbx 51 v43 v41 h n fun _ h n => evBin2 tbx .neq 33 v42 (.i .i64 0) fun v44 =>
 brB v44 (
 k (.tp [.ns, v42]) h n) ( evLoad tbx 51 v43 h fun v45 =>
 evBuildSl tbx 30 1 [(0, v45)] h n fun v46 h n =>
 evApp tbx 30 30 v12 v46 h n fun v47 h n =>
 kk22 (v8, v10, v47, v14, v16, v18, ()) h n)) (
 kk3 (v12, ()) h n)) fu (a0, a2, .ns, a1, v1, (.i .i64 0), ()) h n
noncomputable def e166 : FE := ⟨Tryz.f166, bd Tryz.f166, [0, 1, 2], [6, 7], (.q .z (.q .z (.q (.q .z (.b [8] (.l [0, 2, 8, 13, 14, 15] (.q .z (.q (.c .z .z) (.q (.b [0, 2, 8, 13, 14, 15] (.q .z (.q .z (.q (.q .z (.c (.q .z .z) .z)) .z)))) .z)))))) (.q .z .z))))⟩
theorem q166 (fu : Nat) (cf : CF) (a0 a1 a2 : V) (h : H) (n : Id) (k : KV) : evF fu cf e166 [a0, a1, a2] h n k = s166 fu cf a0 a1 a2 h n k := by kernel_rfl
theorem p166 : PfOk Tryz.prog tbx mtab 166 (w3 (s166 fuX)) := pfo e166 Tryz.func166 (by kernel_rfl) (w3_ok (q166 fuX))
noncomputable def s167 (fu : Nat) (cf : CF) (a0 a1 : V) (h : H) (n : Id) (k : KV) : R :=
 cf 222 [a0, a1] h n fun v1 h n => evBin2 tbx .eql 3 v1 (.i .i64 (-1)) fun v2 =>
 brB v2 (
 k a0 h n) ( evBin2 tbx .add 3 v1 (.i .i64 1) fun v3 =>
 jp (fun (s4 : VT [0, 5]) h n => pc s4 fun v6 s7 => pc s7 fun v8 s9 =>
 evSlc tbx 30 v6 (some v8) none fun v10 =>
 evClear tbx 30 v10 h n fun _ h n =>
 evSlc tbx 30 v6 none (some v8) fun v11 =>
 k v11 h n) fun kk5 =>
 lpC [0, 1, 5, 6] (fun lo13 s12 h n => pc s12 fun v14 s15 => pc s15 fun v16 s17 => pc s17 fun v18 s19 => pc s19 fun v20 s21 =>
 evLen tbx 30 v14 fun v22 => evBin2 tbx .lss 3 v20 v22 fun v23 =>
 brB v23 (
 jp (fun (s24 : VT [0, 1, 5, 6]) h n => pc s24 fun v26 s27 => pc s27 fun v28 s29 => pc s29 fun v30 s31 => pc s31 fun v32 s33 => evBin2 tbx .add 3 v32 (.i .i64 1) fun v34 =>
 lo13 (v26, v28, v30, v34, ()) h n) fun kk25 => evIa tbx 30 v14 v20 fun v35 => evLoad tbx 51 v35 h fun v36 =>
 evAlloc tbx 51 h n fun v37 h n =>
 evStore tbx 51 v37 v36 h n fun _ h n => evLoad tbx 51 v37 h fun v38 =>
 evCall cf v16 [v38] h n fun v39 h n =>
 evUn .not v39 fun v40 =>
 brB v40 ( evLoad tbx 51 v37 h fun v41 => evIa tbx 30 v14 v18 fun v42 =>
 evStore tbx 51 v42 v41 h n fun _ h n => evBin2 tbx .add 3 v18 (.i .i64 1) fun v43 =>
 kk25 (v14, v16, v43, v20, ()) h n) (
 kk25 (v14, v16, v18, v20, ()) h n)) (
 kk5 (v14, v18, ()) h n)) fu (a0, a1, v1, v3, ()) h n)
noncomputable def e167 : FE := ⟨Tryz.f167, bd Tryz.f167, [0, 1], [4], (.q .z (.q .z (.q (.q .z (.c (.q .z .z) .z)) (.q (.q .z (.b [0, 5] (.l [0, 1, 5, 6] (.q (.q .z (.c .z .z)) (.q (.b [0, 1, 5, 6] (.q .z (.q .z (.c (.q .z .z) .z)))) .z))))) (.q .z (.q .z .z))))))⟩
theorem q167 (fu : Nat) (cf : CF) (a0 a1 : V) (h : H) (n : Id) (k : KV) : evF fu cf e167 [a0, a1] h n k = s167 fu cf a0 a1 h n k := by kernel_rfl
theorem p167 : PfOk Tryz.prog tbx mtab 167 (w2 (s167 fuX)) := pfo e167 Tryz.func167 (by kernel_rfl) (w2_ok (q167 fuX))
noncomputable def s168 (fu : Nat) (cf : CF) (a0 : V) (h : H) (n : Id) (k : KV) : R :=
 evBox a0 h n fun v1 h n => evFa tbx 51 5 v1 fun v2 => evLoad tbx 9 v2 h fun v3 => evBin2 tbx .eql 9 v3 (.s 6 115918758703732) fun v4 =>
 k v4 h n
noncomputable def e168 : FE := ⟨Tryz.f168, bd Tryz.f168, [0], [2], (.q .z (.q .z .z))⟩
theorem q168 (fu : Nat) (cf : CF) (a0 : V) (h : H) (n : Id) (k : KV) : evF fu cf e168 [a0] h n k = s168 fu cf a0 h n k := by kernel_rfl
theorem p168 : PfOk Tryz.prog tbx mtab 168 (w1 (s168 fuX)) := pfo e168 Tryz.func168 (by kernel_rfl) (w1_ok (q168 fuX))
noncomputable def s169 (fu : Nat) (cf : CF) (a0 a1 : V) (h : H) (n : Id) (k : KV) : R :=
 evBox a0 h n fun v1 h n => evLoad tbx 51 v1 h fun v2 =>
 cf 46 [v2] h n fun v3 h n => evLoad tbx 227 a1 h fun v4 =>
 evLook tbx mtab 227 v4 v3 false h fun v5 => evLoad tbx 227 a1 h fun v6 =>
 evMapUpd mtab 227 v6 v3 (.b true) h n fun _ h n =>
 k v5 h n
noncomputable def e169 : FE := ⟨Tryz.f169, bd Tryz.f169, [0, 1], [3], (.q .z (.q .z (.q .z (.q .z (.q .z .z)))))⟩
theorem q169 (fu : Nat) (cf : CF) (a0 a1 : V) (h : H) (n : Id) (k : KV) : evF fu cf e169 [a0, a1] h n k = s169 fu cf a0 a1 h n k := by kernel_rfl
theorem p169 : PfOk Tryz.prog tbx mtab 169 (w2 (s169 fuX)) := pfo e169 Tryz.func169 (by kernel_rfl) (w2_ok (q169 fuX))
noncomputable def s170 (fu : Nat) (cf : CF) (a0 a1 : V) (h : H) (n : Id) (k : KV) : R :=
 evAlloc tbx 51 h n fun v1 h n =>
 jp (fun (s4 : VT [4, 5]) h n => pc s4 fun v7 s8 => pc s8 fun v9 s10 => evLoad tbx 51 v7 h fun v11 =>
 k (.tp [v11, v9]) h n) fun kk2 =>
 jp (lpC [0, 1, 4] (fun lo6 s5 h n => pc s5 fun v12 s13 => pc s13 fun v14 s15 => pc s15 fun v16 s17 =>
 evLen tbx 30 v12 fun v18 => evBin2 tbx .eql 3 v18 (.i .i64 0) fun v19 =>
 brB v19 (
 evBuild tbx 51 [] fun v20 =>
 evStore tbx 51 v16 v20 h n fun _ h n => evLoad tbx 51 v16 h fun v21 =>
 k (.tp [v21, (.b false)]) h n) ( evIa tbx 30 v12 (.i .i64 0) fun v22 => evLoad tbx 51 v22 h fun v23 =>
 cf 46 [v23] h n fun v24 h n => evBin2 tbx .eql 9 v24 v14 fun v25 =>
 brB v25 ( evIa tbx 30 v12 (.i .i64 0) fun v26 => evLoad tbx 51 v26 h fun v27 =>
 evAlloc tbx 51 h n fun v28 h n =>
 evStore tbx 51 v28 v27 h n fun _ h n => evFa tbx 51 7 v28 fun v29 => evLoad tbx 49 v29 h fun v30 =>
 cf 113 [v30] h n fun v31 h n => evFa tbx 51 7 v28 fun v32 =>
 evStore tbx 49 v32 v31 h n fun _ h n => evLoad tbx 51 v28 h fun v33 =>
 evStore tbx 51 v16 v33 h n fun _ h n => evLoad tbx 51 v16 h fun v34 =>
 k (.tp [v34, (.b true)]) h n) (
 evSlc tbx 30 v12 (some (.i .i64 1)) none fun v35 =>
 lo6 (v35, v14, v16, ()) h n))) fu) fun lo3 =>
 evLen tbx 30 a0 fun v36 => evBin2 tbx .eql 3 v36 (.i .i64 0) fun v37 =>
 brB v37 (
 evBuild tbx 51 [] fun v38 =>
 evStore tbx 51 v1 v38 h n fun _ h n => evLoad tbx 51 v1 h fun v39 =>
 k (.tp [v39, (.b false)]) h n) ( evIa tbx 30 a0 (.i .i64 0) fun v40 => evLoad tbx 51 v40 h fun v41 =>
 cf 46 [v41] h n fun v42 h n => evBin2 tbx .eql 9 v42 a1 fun v43 =>
 brB v43 ( evIa tbx 30 a0 (.i .i64 0) fun v44 => evLoad tbx 51 v44 h fun v45 =>
 evAlloc tbx 51 h n fun v46 h n =>
 evStore tbx 51 v46 v45 h n fun _ h n => evFa tbx 51 7 v46 fun v47 => evLoad tbx 49 v47 h fun v48 =>
 cf 113 [v48] h n fun v49 h n => evFa tbx 51 7 v46 fun v50 =>
 evStore tbx 49 v50 v49 h n fun _ h n => evLoad tbx 51 v46 h fun v51 =>
 evStore tbx 51 v1 v51 h n fun _ h n => evLoad tbx 51 v1 h fun v52 =>
 k (.tp [v52, (.b true)]) h n) (
 evSlc tbx 30 a0 (some (.i .i64 1)) none fun v53 =>
 lo3 (v53, a1, v1, ()) h n))
noncomputable def e170 : FE := ⟨Tryz.f170, bd Tryz.f170, [0, 1], [4, 5], (.q .z (.g 0 [0, 1, 4] [4, 5] (.q .z (.q (.q .z (.c (.q .z .z) .z)) (.q (.q .z (.c (.q .z (.q .z (.q .z .z))) .z)) (.q .z .z)))) (.q .z (.q (.q .z (.c (.q .z .z) .z)) (.q (.q .z (.c (.q .z (.q .z (.q .z .z))) .z)) (.q .z .z))))))⟩
theorem q170 (fu : Nat) (cf : CF) (a0 a1 : V) (h : H) (n : Id) (k : KV) : evF fu cf e170 [a0, a1] h n k = s170 fu cf a0 a1 h n k := by kernel_rfl
theorem p170 : PfOk Tryz.prog tbx mtab 170 (w2 (s170 fuX)) := pfo e170 Tryz.func170 (by kernel_rfl) (w2_ok (q170 fuX))
noncomputable def s171 (fu : Nat) (cf : CF) (a0 a1 : V) (h : H) (n : Id) (k : KV) : R :=
 cf 223 [a0, a1] h n fun v1 h n =>
 k v1 h n
noncomputable def e171 : FE := ⟨Tryz.f171, bd Tryz.f171, [0, 1], [4], (.q .z (.q .z .z))⟩
theorem q171 (fu : Nat) (cf : CF) (a0 a1 : V) (h : H) (n : Id) (k : KV) : evF fu cf e171 [a0, a1] h n k = s171 fu cf a0 a1 h n k := by kernel_rfl
theorem p171 : PfOk Tryz.prog tbx mtab 171 (w2 (s171 fuX)) := pfo e171 Tryz.func171 (by kernel_rfl) (w2_ok (q171 fuX))
noncomputable def s172 (fu : Nat) (cf : CF) (a0 : V) (h : H) (n : Id) (k : KV) : R :=
 evAlloc tbx 250 h n fun v1 h n =>
 cf 114 [a0] h n fun v2 h n =>
 evUn .not v2 fun v3 =>
 brB v3 (
 evBuild tbx 250 [] fun v4 =>
 evStore tbx 250 v1 v4 h n fun _ h n => evLoad tbx 250 v1 h fun v5 =>
 k (.tp [v5, (.s 0 0), (.b false)]) h n) (
 cf 224 [a0, (.s 2 23849)] h n fun v6 h n => evBin2 tbx .lss 3 v6 (.i .i64 0) fun v7 =>
 brB v7 (
 evBuild tbx 250 [] fun v8 =>
 evStore tbx 250 v1 v8 h n fun _ h n => evLoad tbx 250 v1 h fun v9 =>
 k (.tp [v9, (.s 0 0), (.b false)]) h n) (
 evIx tbx 9 a0 (.i .i64 0) fun v10 => evBin2 tbx .eql 5 v10 (.i .u8 91) fun v11 =>
 evIx tbx 9 a0 v6 fun v12 => evBin2 tbx .eql 5 v12 (.i .u8 93) fun v13 =>
 evBuild tbx 250 [(2, v11), (3, v13)] fun v14 =>
 evAlloc tbx 250 h n fun v15 h n =>
 evStore tbx 250 v15 v14 h n fun _ h n =>
 evSlc tbx 9 a0 (some (.i .i64 1)) (some v6) fun v16 =>
 cf 225 [v16, (.s 1 44)] h n fun v17 h n => evExt 0 v17 fun v18 => evExt 1 v17 fun v19 => evExt 2 v17 fun v20 =>
 jp (fun (s21 : VT [0, 2, 5, 6, 7, 8, 9]) h n => pc s21 fun v23 s24 => pc s24 fun v25 s26 => pc s26 fun v27 s28 => pc s28 fun v29 s30 => pc s30 fun v31 s32 => pc s32 fun v33 s34 => pc s34 fun v35 s36 =>
 cf 226 [v31, (.s 1 32)] h n fun v37 h n =>
 cf 226 [v33, (.s 1 32)] h n fun v38 h n => evFa tbx 250 0 v29 fun v39 =>
 evStore tbx 9 v39 v37 h n fun _ h n => evFa tbx 250 1 v29 fun v40 =>
 evStore tbx 9 v40 v38 h n fun _ h n =>
 evUn .not v35 fun v41 =>
 jp (fun (v42 : V) h n =>
 jp (fun (v44 : V) h n =>
 jp (fun (v46 : V) h n =>
 jp (fun (v48 : V) h n =>
 jp (fun (v50 : V) h n =>
 jp (fun (v52 : V) h n =>
 jp (fun (v54 : V) h n =>
 jp (fun (v56 : V) h n => evPick v41 v56 (.b false) fun v58 =>
 brB v58 (
 evBuild tbx 250 [] fun v59 =>
 evStore tbx 250 v25 v59 h n fun _ h n => evLoad tbx 250 v25 h fun v60 =>
 k (.tp [v60, (.s 0 0), (.b false)]) h n) ( evLoad tbx 250 v29 h fun v61 => evBin2 tbx .add 3 v27 (.i .i64 1) fun v62 =>
 evSlc tbx 9 v23 (some v62) none fun v63 => evLoad tbx 250 v29 h fun v64 => evLoad tbx 250 v29 h fun w69 => cond (eqV 6 w69 v61) ( evLoad tbx 250 v29 h fun w68 => cond (eqV 6 w68 v64) (
 cf 227 [v64] h n fun v65 h n => evLoad tbx 250 v29 h fun w67 => cond (eqV 6 w67 v61) (
 evStore tbx 250 v25 v61 h n fun _ h n => evLoad tbx 250 v25 h fun v66 =>
 k (.tp [v66, v63, v65]) h n) none) none) none)) fun kk57 =>
 gdB v41 true ((evPick v48 (.b true) v54 fun v => kk57 v h n)) (kk57 (.tp []) h n)) fun kk55 =>
 gdB v48 false ((evUn .not v52 fun v => kk55 v h n)) (kk55 (.tp []) h n)) fun kk53 =>
 gdB v48 false ((evLoad tbx 4 v50 h fun v => kk53 v h n)) (kk53 (.tp []) h n)) fun kk51 =>
 gdB v48 false ((evFa tbx 250 3 v29 fun v => kk51 v h n)) (kk51 (.tp []) h n)) fun kk49 =>
 gdB v41 true (kk49 v46 h n) (kk49 (.tp []) h n)) fun kk47 =>
 gdB v41 true ((evUn .not v44 fun v => kk47 v h n)) (kk47 (.tp []) h n)) fun kk45 =>
 gdB v41 true ((evLoad tbx 4 v42 h fun v => kk45 v h n)) (kk45 (.tp []) h n)) fun kk43 =>
 gdB v41 true ((evFa tbx 250 2 v29 fun v => kk43 v h n)) (kk43 (.tp []) h n)) fun kk22 =>
 evUn .not v20 fun v70 =>
 brB v70 (
 kk22 (a0, v1, v6, v15, v18, v18, v20, ()) h n) (
 kk22 (a0, v1, v6, v15, v18, v19, v20, ()) h n)))
noncomputable def e172 : FE := ⟨Tryz.f172, bd Tryz.f172, [0], [2, 3, 4], (.q .z (.q (.q .z (.c (.q .z .z) .z)) (.q .z (.q (.q .z (.c (.q .z .z) .z)) (.q .z (.q .z (.s [0, 2, 5, 6, 7, 8, 9] (.q .z (.c .z .z)) (.q .z (.q (.q .z (.c (.q .z .z) .z)) (.q .z .z))))))))))⟩
theorem q172 (fu : Nat) (cf : CF) (a0 : V) (h : H) (n : Id) (k : KV) : evF fu cf e172 [a0] h n k = s172 fu cf a0 h n k := by kernel_rfl
theorem p172 : PfOk Tryz.prog tbx mtab 172 (w1 (s172 fuX)) := pfo e172 Tryz.func172 (by kernel_rfl) (w1_ok (q172 fuX))
end Go.Proofs.Nw.X
end
