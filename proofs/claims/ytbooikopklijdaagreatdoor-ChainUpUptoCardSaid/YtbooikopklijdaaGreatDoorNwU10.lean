/- Bundle: NwXU3. -/
import Derived.Test.YtbooikopklijdaaGreatDoorNwU9
set_option linter.constructorNameAsVariable false
set_option linter.unusedVariables false
set_option linter.unusedSimpArgs false
set_option linter.unusedSectionVars false
section
/- printed by xg.py: seat F's functions, 3. -/
open Go Go.RowKit Go.Proofs
set_option linter.unusedVariables false
set_option maxRecDepth 100000
namespace Go.Proofs.Nw.X
open Go.Proofs.Nw.K
noncomputable def s141 (fu : Nat) (cf : CF) (a0 a1 : V) (h : H) (n : Id) (k : KV) : R :=
 jp (fun (s1 : VT [0]) h n =>
 pc s1 fun v3 s4 =>
 cf 202 [v3] h n fun v5 h n =>
 k v5 h n) fun kk2 =>
 cf 196 [a0, (.s 4 1008807213)] h n fun v6 h n =>
 brB v6 (
 cf 197 [a0] h n fun v7 h n =>
 k v7 h n) (
 cf 196 [a0, (.s 9 1109208233209138266459)] h n fun v8 h n =>
 brB v8 (
 cf 198 [a0] h n fun v9 h n =>
 k v9 h n) (
 cf 196 [a0, (.s 2 15423)] h n fun v10 h n =>
 brB v10 (
 cf 199 [a0, a1] h n fun v11 h n =>
 k v11 h n) (
 cf 196 [a0, (.s 2 15407)] h n fun v12 h n =>
 brB v12 (
 cf 200 [a0] h n fun v13 h n =>
 k v13 h n) (
 cf 196 [a0, (.s 1 60)] h n fun v14 h n =>
 brB v14 (
 cf 201 [a0] h n fun v15 h n =>
 k v15 h n) (
 kk2 (a0, ()) h n)))))
noncomputable def e141 : FE := ⟨Tryz.f141, bd Tryz.f141, [0, 1], [4], (.q .z (.q (.b [0] (.q .z (.c (.q .z .z) (.q .z (.c (.q .z .z) (.q .z (.c (.q .z .z) (.q .z (.c (.q .z .z) (.q .z (.c (.q .z .z) .z))))))))))) (.q .z .z)))⟩
theorem q141 (fu : Nat) (cf : CF) (a0 a1 : V) (h : H) (n : Id) (k : KV) : evF fu cf e141 [a0, a1] h n k = s141 fu cf a0 a1 h n k := by kernel_rfl
theorem p141 : PfOk Tryz.prog tbx mtab 141 (w2 (s141 fuX)) := pfo e141 Tryz.func141 (by kernel_rfl) (w2_ok (q141 fuX))
noncomputable def s142 (fu : Nat) (cf : CF) (a0 a1 : V) (h : H) (n : Id) (k : KV) : R :=
 evBox a1 h n fun v1 h n =>
 evFa tbx 222 0 v1 fun v2 =>
 evLoad tbx 3 v2 h fun v3 =>
 jp (fun (s4 : VT []) h n =>
 k (.i .i64 5) h n) fun kk5 =>
 jp (fun (s6 : VT [0, 3, 6, 7]) h n =>
 pc s6 fun v8 s9 =>
 pc s9 fun v10 s11 =>
 pc s11 fun v12 s13 =>
 pc s13 fun v14 s15 =>
 brB v14 (
 k (.i .i64 0) h n) (
 evBin2 tbx .eql 3 v12 (.i .i64 1) fun v16 =>
 brB v16 (
 evLoad tbx 222 v10 h fun v17 =>
 cf 203 [v8, v17] h n fun v18 h n =>
 k v18 h n) (
 evBin2 tbx .eql 3 v12 (.i .i64 2) fun v19 =>
 brB v19 (
 evLoad tbx 222 v10 h fun v20 =>
 cf 204 [v8, v20] h n fun v21 h n =>
 k v21 h n) (
 evBin2 tbx .eql 3 v12 (.i .i64 3) fun v22 =>
 brB v22 (
 evFa tbx 222 2 v10 fun v23 =>
 evLoad tbx 9 v23 h fun v24 =>
 cf 205 [v8, v24] h n fun v25 h n =>
 k v25 h n) (
 kk5 (()) h n))))) fun kk7 =>
 evBin2 tbx .eql 3 v3 (.i .i64 4) fun v26 =>
 brB v26 (
 kk7 (a0, v1, v3, v26, ()) h n) (
 evBin2 tbx .eql 3 v3 (.i .i64 5) fun v27 =>
 kk7 (a0, v1, v3, v27, ()) h n)
noncomputable def e142 : FE := ⟨Tryz.f142, bd Tryz.f142, [0, 1], [4], (.q .z (.q (.q .z (.b [] (.s [0, 3, 6, 7] (.q .z (.c .z .z)) (.c (.q .z .z) (.q .z (.c (.q .z .z) (.q .z (.c (.q .z .z) (.q .z (.c (.q .z .z) .z)))))))))) (.q .z .z)))⟩
theorem q142 (fu : Nat) (cf : CF) (a0 a1 : V) (h : H) (n : Id) (k : KV) : evF fu cf e142 [a0, a1] h n k = s142 fu cf a0 a1 h n k := by kernel_rfl
theorem p142 : PfOk Tryz.prog tbx mtab 142 (w2 (s142 fuX)) := pfo e142 Tryz.func142 (by kernel_rfl) (w2_ok (q142 fuX))
noncomputable def s143 (fu : Nat) (cf : CF) (a0 : V) (h : H) (n : Id) (k : KV) : R :=
 evBox a0 h n fun v1 h n =>
 evFa tbx 162 1 v1 fun v2 =>
 evLoad tbx 9 v2 h fun v3 =>
 evBin2 tbx .eql 9 v3 (.s 0 0) fun v4 =>
 brB v4 (
 evFa tbx 162 2 v1 fun v5 =>
 evLoad tbx 9 v5 h fun v6 =>
 evBin2 tbx .neq 9 v6 (.s 0 0) fun v7 =>
 jp (fun (v8 : V) h n =>
 jp (fun (v10 : V) h n =>
 jp (fun (v12 : V) h n =>
 evPick v7 v12 (.b false) fun v14 =>
 jp (fun (v15 : V) h n =>
 jp (fun (v17 : V) h n =>
 jp (fun (v19 : V) h n =>
 jp (fun (v21 : V) h n =>
 evPick v14 v21 (.b false) fun v23 =>
 k v23 h n) fun kk22 =>
 gdB v14 true ((evBin2 tbx .eql 3 v19 (.i .i64 0) fun v => kk22 v h n)) (kk22 (.tp []) h n)) fun kk20 =>
 gdB v14 true ((evLen tbx 160 v17 fun v => kk20 v h n)) (kk20 (.tp []) h n)) fun kk18 =>
 gdB v14 true ((evLoad tbx 160 v15 h fun v => kk18 v h n)) (kk18 (.tp []) h n)) fun kk16 =>
 gdB v14 true ((evFa tbx 162 3 v1 fun v => kk16 v h n)) (kk16 (.tp []) h n)) fun kk13 =>
 gdB v7 true ((cf 206 [v10] h n kk13)) (kk13 (.tp []) h n)) fun kk11 =>
 gdB v7 true ((evLoad tbx 9 v8 h fun v => kk11 v h n)) (kk11 (.tp []) h n)) fun kk9 =>
 gdB v7 true ((evFa tbx 162 2 v1 fun v => kk9 v h n)) (kk9 (.tp []) h n)) (
 evFa tbx 162 1 v1 fun v24 =>
 evLoad tbx 9 v24 h fun v25 =>
 cf 207 [v25] h n fun v26 h n =>
 jp (fun (v27 : V) h n =>
 jp (fun (v29 : V) h n =>
 jp (fun (v31 : V) h n =>
 evPick v26 v31 (.b false) fun v33 =>
 jp (fun (v34 : V) h n =>
 jp (fun (v36 : V) h n =>
 jp (fun (v38 : V) h n =>
 evPick v33 v38 (.b false) fun v40 =>
 k v40 h n) fun kk39 =>
 gdB v33 true ((cf 208 [v36] h n kk39)) (kk39 (.tp []) h n)) fun kk37 =>
 gdB v33 true ((evLoad tbx 160 v34 h fun v => kk37 v h n)) (kk37 (.tp []) h n)) fun kk35 =>
 gdB v33 true ((evFa tbx 162 3 v1 fun v => kk35 v h n)) (kk35 (.tp []) h n)) fun kk32 =>
 gdB v26 true ((evBin2 tbx .eql 9 v29 (.s 0 0) fun v => kk32 v h n)) (kk32 (.tp []) h n)) fun kk30 =>
 gdB v26 true ((evLoad tbx 9 v27 h fun v => kk30 v h n)) (kk30 (.tp []) h n)) fun kk28 =>
 gdB v26 true ((evFa tbx 162 2 v1 fun v => kk28 v h n)) (kk28 (.tp []) h n))
noncomputable def e143 : FE := ⟨Tryz.f143, bd Tryz.f143, [0], [2], (.q .z (.q (.q .z (.c (.q .z .z) .z)) (.q .z .z)))⟩
theorem q143 (fu : Nat) (cf : CF) (a0 : V) (h : H) (n : Id) (k : KV) : evF fu cf e143 [a0] h n k = s143 fu cf a0 h n k := by kernel_rfl
theorem p143 : PfOk Tryz.prog tbx mtab 143 (w1 (s143 fuX)) := pfo e143 Tryz.func143 (by kernel_rfl) (w1_ok (q143 fuX))
noncomputable def s144 (fu : Nat) (cf : CF) (a0 a1 : V) (h : H) (n : Id) (k : KV) : R :=
 cf 209 [a0, a1] h n fun v1 h n =>
 evBin2 tbx .add 3 v1 (.i .i64 1) fun v2 =>
 evSlc tbx 224 a0 none (some v2) fun v3 =>
 evBin2 tbx .geq 3 v1 (.i .i64 0) fun v4 =>
 k (.tp [v3, v4]) h n
noncomputable def e144 : FE := ⟨Tryz.f144, bd Tryz.f144, [0, 1], [4, 5], (.q .z (.q .z (.q .z .z)))⟩
theorem q144 (fu : Nat) (cf : CF) (a0 a1 : V) (h : H) (n : Id) (k : KV) : evF fu cf e144 [a0, a1] h n k = s144 fu cf a0 a1 h n k := by kernel_rfl
theorem p144 : PfOk Tryz.prog tbx mtab 144 (w2 (s144 fuX)) := pfo e144 Tryz.func144 (by kernel_rfl) (w2_ok (q144 fuX))
noncomputable def s145 (fu : Nat) (cf : CF) (a0 a1 a2 : V) (h : H) (n : Id) (k : KV) : R :=
 jp (fun (s3 : VT [6]) h n =>
 pc s3 fun v6 s7 =>
 k v6 h n) fun kk1 =>
 jp (lpC [0, 1, 2, 7] (fun lo5 s4 h n =>
 pc s4 fun v8 s9 =>
 pc s9 fun v10 s11 =>
 pc s11 fun v12 s13 =>
 pc s13 fun v14 s15 =>
 evLen tbx 149 v14 fun v16 =>
 evBin2 tbx .gtr 3 v16 (.i .i64 0) fun v17 =>
 brB v17 (
 evIa tbx 149 v14 (.i .i64 0) fun v18 =>
 evLoad tbx 3 v18 h fun v19 =>
 evCall cf v12 [v19] h n fun v20 h n =>
 evBin2 tbx .neq 33 v20 (.i .i64 0) fun v21 =>
 brB v21 (
 k v20 h n) (
 evSlc tbx 149 v14 (some (.i .i64 1)) none fun v22 =>
 lo5 (v8, v10, v12, v22, ()) h n)) (
 evNc' v8 fun v23 =>
 evFa tbx 166 0 v23 fun v24 =>
 evLoad tbx 114 v24 h fun v25 =>
 cf 211 [v25, v10] h n fun v26 h n =>
 cf 210 [v26] h n fun v27 h n =>
 evBin2 tbx .neq 9 v27 (.s 0 0) fun v28 =>
 brB v28 (
 k (.i .i64 10) h n) (
 k (.i .i64 0) h n))) fu) fun lo2 =>
 evNc' a0 fun v29 =>
 evFa tbx 166 1 v29 fun v30 =>
 evLoad tbx 164 v30 h fun v31 =>
 evIa tbx 164 v31 a1 fun v32 =>
 evLoad tbx 149 v32 h fun v33 =>
 evLen tbx 149 v33 fun v34 =>
 evBin2 tbx .gtr 3 v34 (.i .i64 0) fun v35 =>
 brB v35 (
 evIa tbx 149 v33 (.i .i64 0) fun v36 =>
 evLoad tbx 3 v36 h fun v37 =>
 evCall cf a2 [v37] h n fun v38 h n =>
 evBin2 tbx .neq 33 v38 (.i .i64 0) fun v39 =>
 brB v39 (
 k v38 h n) (
 evSlc tbx 149 v33 (some (.i .i64 1)) none fun v40 =>
 lo2 (a0, a1, a2, v40, ()) h n)) (
 evNc' a0 fun v41 =>
 evFa tbx 166 0 v41 fun v42 =>
 evLoad tbx 114 v42 h fun v43 =>
 cf 211 [v43, a1] h n fun v44 h n =>
 cf 210 [v44] h n fun v45 h n =>
 evBin2 tbx .neq 9 v45 (.s 0 0) fun v46 =>
 brB v46 (
 k (.i .i64 10) h n) (
 k (.i .i64 0) h n))
noncomputable def e145 : FE := ⟨Tryz.f145, bd Tryz.f145, [0, 1, 2], [6], (.q .z (.g 0 [0, 1, 2, 7] [6] (.q .z (.q .z (.q (.q .z (.c (.q (.q .z (.q .z (.c (.q .z .z) .z))) (.q .z .z)) .z)) (.q (.q .z (.c (.q .z .z) .z)) (.q .z .z))))) (.q .z (.q (.q .z (.c (.q (.q .z (.q .z (.c (.q .z .z) .z))) (.q .z .z)) .z)) (.q (.q .z (.c (.q .z .z) .z)) (.q .z .z))))))⟩
theorem q145 (fu : Nat) (cf : CF) (a0 a1 a2 : V) (h : H) (n : Id) (k : KV) : evF fu cf e145 [a0, a1, a2] h n k = s145 fu cf a0 a1 a2 h n k := by kernel_rfl
theorem p145 : PfOk Tryz.prog tbx mtab 145 (w3 (s145 fuX)) := pfo e145 Tryz.func145 (by kernel_rfl) (w3_ok (q145 fuX))
noncomputable def s146 (fu : Nat) (cf : CF) (a0 a1 a2 a3 : V) (h : H) (n : Id) (k : KV) : R :=
 evLoad tbx 163 a1 h fun v1 =>
 evNc' v1 fun v2 =>
 evFa tbx 166 0 v2 fun v3 =>
 evLoad tbx 114 v3 h fun v4 =>
 evIa tbx 114 v4 a0 fun v5 =>
 evFa tbx 162 1 v5 fun v6 =>
 evLoad tbx 9 v6 h fun v7 =>
 evLoad tbx 177 a2 h fun v8 =>
 evLook tbx mtab 177 v8 v7 true h fun v9 =>
 evExt 0 v9 fun v10 =>
 evExt 1 v9 fun v11 =>
 jp (fun (s12 : VT [0, 3, 6, 7]) h n =>
 pc s12 fun v14 s15 =>
 pc s15 fun v16 s17 =>
 pc s17 fun v18 s19 =>
 pc s19 fun v20 s21 =>
 evLoad tbx 227 v16 h fun v22 =>
 evMapUpd mtab 227 v22 v18 (.b true) h n fun _ h n =>
 evCall cf v20 [v14] h n fun v23 h n =>
 k v23 h n) fun kk13 =>
 evUn .not v11 fun v24 =>
 brB v24 (
 k (.i .i64 0) h n) (
 evLoad tbx 227 a3 h fun v25 =>
 evLook tbx mtab 227 v25 v7 false h fun v26 =>
 brB v26 (
 k (.i .i64 9) h n) (
 kk13 (a0, a3, v7, v10, ()) h n))
noncomputable def e146 : FE := ⟨Tryz.f146, bd Tryz.f146, [0, 1, 2, 3], [5], (.q .z (.q .z (.q .z (.q (.b [0, 3, 6, 7] (.q .z (.c (.q .z .z) (.q .z (.c (.q .z .z) .z))))) (.q .z (.q .z .z))))))⟩
theorem q146 (fu : Nat) (cf : CF) (a0 a1 a2 a3 : V) (h : H) (n : Id) (k : KV) : evF fu cf e146 [a0, a1, a2, a3] h n k = s146 fu cf a0 a1 a2 a3 h n k := by kernel_rfl
theorem p146 : PfOk Tryz.prog tbx mtab 146 (w4 (s146 fuX)) := pfo e146 Tryz.func146 (by kernel_rfl) (w4_ok (q146 fuX))
noncomputable def s147 (fu : Nat) (cf : CF) (a0 a1 a2 : V) (h : H) (n : Id) (k : KV) : R :=
 evLoad tbx 163 a1 h fun v1 =>
 cf 148 [v1, a0] h n fun v2 h n =>
 evExt 0 v2 fun v3 =>
 evExt 1 v2 fun v4 =>
 evLoad tbx 169 a2 h fun v5 =>
 evNc' v5 fun v6 =>
 evStore tbx 9 v6 v3 h n fun _ h n =>
 k v4 h n
noncomputable def e147 : FE := ⟨Tryz.f147, bd Tryz.f147, [0, 1, 2], [4], (.q .z (.q .z (.q .z (.q .z .z))))⟩
theorem q147 (fu : Nat) (cf : CF) (a0 a1 a2 : V) (h : H) (n : Id) (k : KV) : evF fu cf e147 [a0, a1, a2] h n k = s147 fu cf a0 a1 a2 h n k := by kernel_rfl
theorem p147 : PfOk Tryz.prog tbx mtab 147 (w3 (s147 fuX)) := pfo e147 Tryz.func147 (by kernel_rfl) (w3_ok (q147 fuX))
noncomputable def s148 (fu : Nat) (cf : CF) (a0 a1 : V) (h : H) (n : Id) (k : KV) : R :=
 evNc' a0 fun v1 =>
 evFa tbx 166 0 v1 fun v2 =>
 evLoad tbx 114 v2 h fun v3 =>
 cf 211 [v3, a1] h n fun v4 h n =>
 cf 210 [v4] h n fun v5 h n =>
 evNc' a0 fun v6 =>
 evFa tbx 166 1 v6 fun v7 =>
 evLoad tbx 164 v7 h fun v8 =>
 evIa tbx 164 v8 a1 fun v9 =>
 evLoad tbx 149 v9 h fun v10 =>
 evLen tbx 149 v10 fun v11 =>
 evBin2 tbx .gtr 3 v11 (.i .i64 0) fun v12 =>
 jp (fun (v13 : V) h n =>
 jp (fun (v15 : V) h n =>
 jp (fun (v17 : V) h n =>
 evPick v12 (.b true) v17 fun v19 =>
 brB v19 (
 k (.tp [(.s 0 0), (.i .i64 10)]) h n) (
 k (.tp [v5, (.i .i64 0)]) h n)) fun kk18 =>
 gdB v12 false ((evBin2 tbx .gtr 3 v15 (.i .i64 500) fun v => kk18 v h n)) (kk18 (.tp []) h n)) fun kk16 =>
 gdB v12 false ((evLen tbx 9 v13 fun v => kk16 v h n)) (kk16 (.tp []) h n)) fun kk14 =>
 gdB v12 false (kk14 v5 h n) (kk14 (.tp []) h n)
noncomputable def e148 : FE := ⟨Tryz.f148, bd Tryz.f148, [0, 1], [4, 5], (.q .z (.q .z (.q (.q .z (.c (.q .z .z) .z)) (.q .z .z))))⟩
theorem q148 (fu : Nat) (cf : CF) (a0 a1 : V) (h : H) (n : Id) (k : KV) : evF fu cf e148 [a0, a1] h n k = s148 fu cf a0 a1 h n k := by kernel_rfl
theorem p148 : PfOk Tryz.prog tbx mtab 148 (w2 (s148 fuX)) := pfo e148 Tryz.func148 (by kernel_rfl) (w2_ok (q148 fuX))
noncomputable def s149 (fu : Nat) (cf : CF) (a0 a1 a2 : V) (h : H) (n : Id) (k : KV) : R :=
 evLoad tbx 163 a1 h fun v1 =>
 evLoad tbx 163 a1 h fun v2 =>
 evLoad tbx 171 a2 h fun v3 =>
 evNc' v3 fun v4 =>
 evFa tbx 24 0 v4 fun v5 =>
 evLoad tbx 163 a1 h fun v6 =>
 evLoad tbx 171 a2 h fun v7 =>
 evNc' v7 fun v8 =>
 evFa tbx 24 1 v8 fun v9 =>
 evLoad tbx 163 a1 h fun v10 =>
 evLoad tbx 171 a2 h fun v11 =>
 evNc' v11 fun v12 =>
 evFa tbx 24 2 v12 fun v13 =>
 evLoad tbx 163 a1 h fun w54 => cond (eqV 6 w54 v1) (
 evLoad tbx 163 a1 h fun w53 => cond (eqV 6 w53 v2) (
 evLoad tbx 171 a2 h fun w52 => cond (eqV 6 w52 v3) (
 evLoad tbx 163 a1 h fun w51 => cond (eqV 6 w51 v6) (
 evLoad tbx 171 a2 h fun w50 => cond (eqV 6 w50 v7) (
 evLoad tbx 163 a1 h fun w49 => cond (eqV 6 w49 v10) (
 evLoad tbx 171 a2 h fun w48 => cond (eqV 6 w48 v11) (
 cf 99 [v2, v5] h n fun v14 h n =>
 evLoad tbx 163 a1 h fun w47 => cond (eqV 6 w47 v1) (
 evLoad tbx 163 a1 h fun w46 => cond (eqV 6 w46 v6) (
 evLoad tbx 171 a2 h fun w45 => cond (eqV 6 w45 v7) (
 evLoad tbx 163 a1 h fun w44 => cond (eqV 6 w44 v10) (
 evLoad tbx 171 a2 h fun w43 => cond (eqV 6 w43 v11) (
 cf 99 [v6, v9] h n fun v15 h n =>
 evLoad tbx 163 a1 h fun w42 => cond (eqV 6 w42 v1) (
 evLoad tbx 163 a1 h fun w41 => cond (eqV 6 w41 v10) (
 evLoad tbx 171 a2 h fun w40 => cond (eqV 6 w40 v11) (
 cf 99 [v10, v13] h n fun v16 h n =>
 alB n fun n' => litA [((.s 7 29117745638426980), v14), ((.s 10 460180866011107895298404), v15), ((.s 7 33325589488824174), v16)] fun x mk => 
 (fun (v17 : V) h n =>
 evLoad tbx 163 a1 h fun w39 => cond (eqV 6 w39 v1) (
 ckO (vId v17) h fun id x' => litA [((.s 7 29117745638426980), v14), ((.s 10 460180866011107895298404), v15), ((.s 7 33325589488824174), v16)] fun x mk => cond (eqO x' x) (cond (eqV 6 (mk id) v17) (
 cf 98 [v1, a0, v17] h n fun v18 h n =>
 evLoad tbx 171 a2 h fun v19 =>
 evNc' v19 fun v20 =>
 evFa tbx 24 0 v20 fun v21 =>
 evLoad tbx 9 v21 h fun v22 =>
 evLoad tbx 171 a2 h fun v23 =>
 evNc' v23 fun v24 =>
 evFa tbx 24 1 v24 fun v25 =>
 evLoad tbx 9 v25 h fun v26 =>
 evLoad tbx 171 a2 h fun v27 =>
 evNc' v27 fun v28 =>
 evFa tbx 24 2 v28 fun v29 =>
 evLoad tbx 9 v29 h fun v30 =>
 evLoad tbx 171 a2 h fun w38 => cond (eqV 6 w38 v19) (
 evLoad tbx 9 v21 h fun w37 => cond (eqV 6 w37 v22) (
 evLoad tbx 171 a2 h fun w36 => cond (eqV 6 w36 v23) (
 evLoad tbx 9 v25 h fun w35 => cond (eqV 6 w35 v26) (
 evLoad tbx 171 a2 h fun w34 => cond (eqV 6 w34 v27) (
 evLoad tbx 9 v29 h fun w33 => cond (eqV 6 w33 v30) (
 evBuildSl tbx 71 3 [(0, v22), (1, v26), (2, v30)] h n fun v31 h n =>
 cf 104 [v18, v31] h n fun v32 h n =>
 k v32 h n) none) none) none) none) none) none) none) none) none) (mk n) (hset x n h) n') none) none) none) none) none) none) none) none) none) none) none) none) none) none) none
noncomputable def e149 : FE := ⟨Tryz.f149, bd Tryz.f149, [0, 1, 2], [4], (.q .z (.q .z (.q .z .z)))⟩
theorem q149 (fu : Nat) (cf : CF) (a0 a1 a2 : V) (h : H) (n : Id) (k : KV) : evF fu cf e149 [a0, a1, a2] h n k = s149 fu cf a0 a1 a2 h n k := by kernel_rfl
theorem p149 : PfOk Tryz.prog tbx mtab 149 (w3 (s149 fuX)) := pfo e149 Tryz.func149 (by kernel_rfl) (w3_ok (q149 fuX))
noncomputable def s150 (fu : Nat) (cf : CF) (a0 a1 a2 : V) (h : H) (n : Id) (k : KV) : R :=
 evMkMap h n fun v1 h n =>
 evAlloc tbx 227 h n fun v2 h n =>
 evStore tbx 227 v2 v1 h n fun _ h n =>
 evLoad tbx 163 a1 h fun v3 =>
 let v4 : V := (.fn 151 [a1, v2, a2])
 cf 145 [v3, a0, v4] h n fun v5 h n =>
 k v5 h n
noncomputable def e150 : FE := ⟨Tryz.f150, bd Tryz.f150, [0, 1, 2], [4], (.q .z (.q .z (.q .z .z)))⟩
theorem q150 (fu : Nat) (cf : CF) (a0 a1 a2 : V) (h : H) (n : Id) (k : KV) : evF fu cf e150 [a0, a1, a2] h n k = s150 fu cf a0 a1 a2 h n k := by kernel_rfl
theorem p150 : PfOk Tryz.prog tbx mtab 150 (w3 (s150 fuX)) := pfo e150 Tryz.func150 (by kernel_rfl) (w3_ok (q150 fuX))
noncomputable def s151 (fu : Nat) (cf : CF) (a0 a1 a2 a3 : V) (h : H) (n : Id) (k : KV) : R :=
 evLoad tbx 163 a1 h fun v1 =>
 evNc' v1 fun v2 =>
 evFa tbx 166 0 v2 fun v3 =>
 evLoad tbx 114 v3 h fun v4 =>
 evIa tbx 114 v4 a0 fun v5 =>
 evFa tbx 162 1 v5 fun v6 =>
 evLoad tbx 9 v6 h fun v7 =>
 jp (fun (s8 : VT [0, 1, 2, 3, 6]) h n =>
 pc s8 fun v10 s11 =>
 pc s11 fun v12 s13 =>
 pc s13 fun v14 s15 =>
 pc s15 fun v16 s17 =>
 pc s17 fun v18 s19 =>
 evLoad tbx 227 v14 h fun v20 =>
 evMapUpd mtab 227 v20 v18 (.b true) h n fun _ h n =>
 evLoad tbx 163 v12 h fun v21 =>
 cf 148 [v21, v10] h n fun v22 h n =>
 evExt 0 v22 fun v23 =>
 evExt 1 v22 fun v24 =>
 evLoad tbx 173 v16 h fun v25 =>
 evLoad tbx 173 v16 h fun v26 =>
 evNc' v26 fun v27 =>
 evLoad tbx 29 v27 h fun v28 =>
 evBuild tbx 57 [(0, v18), (1, v23)] fun v29 =>
 evLoad tbx 173 v16 h fun w39 => cond (eqV 6 w39 v25) (
 evLoad tbx 173 v16 h fun w38 => cond (eqV 6 w38 v26) (
 evLoad tbx 29 v27 h fun w37 => cond (eqV 6 w37 v28) (
 evBuildSl tbx 29 1 [(0, v29)] h n fun v30 h n =>
 evLoad tbx 173 v16 h fun w36 => cond (eqV 6 w36 v25) (
 evLoad tbx 173 v16 h fun w35 => cond (eqV 6 w35 v26) (
 evLoad tbx 29 v27 h fun w34 => cond (eqV 6 w34 v28) (
 evApp tbx 29 29 v28 v30 h n fun v31 h n =>
 evNc' v25 fun v32 =>
 evLoad tbx 173 v16 h fun w33 => cond (eqV 6 w33 v25) (
 evStore tbx 29 v32 v31 h n fun _ h n =>
 k v24 h n) none) none) none) none) none) none) none) fun kk9 =>
 evLoad tbx 227 a2 h fun v40 =>
 evLook tbx mtab 227 v40 v7 false h fun v41 =>
 brB v41 (
 k (.i .i64 9) h n) (
 evLoad tbx 173 a3 h fun v42 =>
 evNc' v42 fun v43 =>
 evLoad tbx 29 v43 h fun v44 =>
 evLen tbx 29 v44 fun v45 =>
 evBin2 tbx .geq 3 v45 (.i .i64 100) fun v46 =>
 brB v46 (
 k (.i .i64 3) h n) (
 kk9 (a0, a1, a2, a3, v7, ()) h n))
noncomputable def e151 : FE := ⟨Tryz.f151, bd Tryz.f151, [0, 1, 2, 3], [5], (.q .z (.q .z (.q (.b [0, 1, 2, 3, 6] (.q .z (.c (.q .z .z) (.q .z (.c (.q .z .z) .z))))) (.q .z (.q .z (.q .z (.q .z .z)))))))⟩
theorem q151 (fu : Nat) (cf : CF) (a0 a1 a2 a3 : V) (h : H) (n : Id) (k : KV) : evF fu cf e151 [a0, a1, a2, a3] h n k = s151 fu cf a0 a1 a2 a3 h n k := by kernel_rfl
theorem p151 : PfOk Tryz.prog tbx mtab 151 (w4 (s151 fuX)) := pfo e151 Tryz.func151 (by kernel_rfl) (w4_ok (q151 fuX))
noncomputable def s152 (fu : Nat) (cf : CF) (a0 a1 a2 : V) (h : H) (n : Id) (k : KV) : R :=
 evLoad tbx 163 a1 h fun v1 =>
 evLoad tbx 163 a1 h fun v2 =>
 evLoad tbx 175 a2 h fun v3 =>
 evLoad tbx 163 a1 h fun w10 => cond (eqV 6 w10 v1) (
 evLoad tbx 163 a1 h fun w9 => cond (eqV 6 w9 v2) (
 evLoad tbx 175 a2 h fun w8 => cond (eqV 6 w8 v3) (
 cf 103 [v2, v3] h n fun v4 h n =>
 alB n fun n' => litA [((.s 12 31071133266037411630683874675), v4)] fun x mk => 
 (fun (v5 : V) h n =>
 evLoad tbx 163 a1 h fun w7 => cond (eqV 6 w7 v1) (
 ckO (vId v5) h fun id x' => litA [((.s 12 31071133266037411630683874675), v4)] fun x mk => cond (eqO x' x) (cond (eqV 6 (mk id) v5) (
 cf 98 [v1, a0, v5] h n fun v6 h n =>
 k v6 h n) none) none) none) (mk n) (hset x n h) n') none) none) none
noncomputable def e152 : FE := ⟨Tryz.f152, bd Tryz.f152, [0, 1, 2], [4], (.q .z (.q .z .z))⟩
theorem q152 (fu : Nat) (cf : CF) (a0 a1 a2 : V) (h : H) (n : Id) (k : KV) : evF fu cf e152 [a0, a1, a2] h n k = s152 fu cf a0 a1 a2 h n k := by kernel_rfl
theorem p152 : PfOk Tryz.prog tbx mtab 152 (w3 (s152 fuX)) := pfo e152 Tryz.func152 (by kernel_rfl) (w3_ok (q152 fuX))
noncomputable def s153 (fu : Nat) (cf : CF) (a0 a1 a2 : V) (h : H) (n : Id) (k : KV) : R :=
 evLoad tbx 163 a1 h fun v1 =>
 let v2 : V := (.fn 155 [a1, a2])
 cf 154 [v1, a0, (.s 10 474107868439291559306105), (.i .i64 200), v2] h n fun v3 h n =>
 k v3 h n
noncomputable def e153 : FE := ⟨Tryz.f153, bd Tryz.f153, [0, 1, 2], [4], (.q .z (.q .z .z))⟩
theorem q153 (fu : Nat) (cf : CF) (a0 a1 a2 : V) (h : H) (n : Id) (k : KV) : evF fu cf e153 [a0, a1, a2] h n k = s153 fu cf a0 a1 a2 h n k := by kernel_rfl
theorem p153 : PfOk Tryz.prog tbx mtab 153 (w3 (s153 fuX)) := pfo e153 Tryz.func153 (by kernel_rfl) (w3_ok (q153 fuX))
noncomputable def s154 (fu : Nat) (cf : CF) (a0 a1 a2 a3 a4 : V) (h : H) (n : Id) (k : KV) : R :=
 evBox a0 h n fun v1 h n =>
 evBox a2 h n fun v2 h n =>
 evBox a3 h n fun v3 h n =>
 evBox a4 h n fun v4 h n =>
 evAlloc tbx 3 h n fun v5 h n =>
 evStore tbx 3 v5 (.i .i64 0) h n fun _ h n =>
 evLoad tbx 163 v1 h fun v6 =>
 let v7 : V := (.fn 212 [v1, v2, v5, v3, v4])
 cf 145 [v6, a1, v7] h n fun v8 h n =>
 k v8 h n
noncomputable def e154 : FE := ⟨Tryz.f154, bd Tryz.f154, [0, 1, 2, 3, 4], [10], (.q .z (.q .z (.q .z .z)))⟩
theorem q154 (fu : Nat) (cf : CF) (a0 a1 a2 a3 a4 : V) (h : H) (n : Id) (k : KV) : evF fu cf e154 [a0, a1, a2, a3, a4] h n k = s154 fu cf a0 a1 a2 a3 a4 h n k := by kernel_rfl
theorem p154 : PfOk Tryz.prog tbx mtab 154 (w5 (s154 fuX)) := pfo e154 Tryz.func154 (by kernel_rfl) (w5_ok (q154 fuX))
noncomputable def s155 (fu : Nat) (cf : CF) (a0 a1 a2 : V) (h : H) (n : Id) (k : KV) : R :=
 evAlloc tbx 51 h n fun v1 h n =>
 evLoad tbx 163 a1 h fun v2 =>
 evLoad tbx 163 a1 h fun v3 =>
 evFa tbx 51 0 v1 fun v4 =>
 evLoad tbx 163 a1 h fun v5 =>
 evFa tbx 51 1 v1 fun v6 =>
 evLoad tbx 163 a1 h fun v7 =>
 evFa tbx 51 2 v1 fun v8 =>
 evLoad tbx 163 a1 h fun v9 =>
 evFa tbx 51 3 v1 fun v10 =>
 evLoad tbx 163 a1 h fun v11 =>
 evFa tbx 51 4 v1 fun v12 =>
 evLoad tbx 163 a1 h fun v13 =>
 evFa tbx 51 5 v1 fun v14 =>
 evLoad tbx 163 a1 h fun v15 =>
 evFa tbx 51 6 v1 fun v16 =>
 evLoad tbx 163 a1 h fun v17 =>
 evFa tbx 51 7 v1 fun v18 =>
 evLoad tbx 163 a1 h fun w95 => cond (eqV 6 w95 v2) (
 evLoad tbx 163 a1 h fun w94 => cond (eqV 6 w94 v3) (
 evLoad tbx 163 a1 h fun w93 => cond (eqV 6 w93 v5) (
 evLoad tbx 163 a1 h fun w92 => cond (eqV 6 w92 v7) (
 evLoad tbx 163 a1 h fun w91 => cond (eqV 6 w91 v9) (
 evLoad tbx 163 a1 h fun w90 => cond (eqV 6 w90 v11) (
 evLoad tbx 163 a1 h fun w89 => cond (eqV 6 w89 v13) (
 evLoad tbx 163 a1 h fun w88 => cond (eqV 6 w88 v15) (
 evLoad tbx 163 a1 h fun w87 => cond (eqV 6 w87 v17) (
 cf 99 [v3, v4] h n fun v19 h n =>
 evLoad tbx 163 a1 h fun w86 => cond (eqV 6 w86 v2) (
 evLoad tbx 163 a1 h fun w85 => cond (eqV 6 w85 v5) (
 evLoad tbx 163 a1 h fun w84 => cond (eqV 6 w84 v7) (
 evLoad tbx 163 a1 h fun w83 => cond (eqV 6 w83 v9) (
 evLoad tbx 163 a1 h fun w82 => cond (eqV 6 w82 v11) (
 evLoad tbx 163 a1 h fun w81 => cond (eqV 6 w81 v13) (
 evLoad tbx 163 a1 h fun w80 => cond (eqV 6 w80 v15) (
 evLoad tbx 163 a1 h fun w79 => cond (eqV 6 w79 v17) (
 cf 99 [v5, v6] h n fun v20 h n =>
 evLoad tbx 163 a1 h fun w78 => cond (eqV 6 w78 v2) (
 evLoad tbx 163 a1 h fun w77 => cond (eqV 6 w77 v7) (
 evLoad tbx 163 a1 h fun w76 => cond (eqV 6 w76 v9) (
 evLoad tbx 163 a1 h fun w75 => cond (eqV 6 w75 v11) (
 evLoad tbx 163 a1 h fun w74 => cond (eqV 6 w74 v13) (
 evLoad tbx 163 a1 h fun w73 => cond (eqV 6 w73 v15) (
 evLoad tbx 163 a1 h fun w72 => cond (eqV 6 w72 v17) (
 cf 99 [v7, v8] h n fun v21 h n =>
 evLoad tbx 163 a1 h fun w71 => cond (eqV 6 w71 v2) (
 evLoad tbx 163 a1 h fun w70 => cond (eqV 6 w70 v9) (
 evLoad tbx 163 a1 h fun w69 => cond (eqV 6 w69 v11) (
 evLoad tbx 163 a1 h fun w68 => cond (eqV 6 w68 v13) (
 evLoad tbx 163 a1 h fun w67 => cond (eqV 6 w67 v15) (
 evLoad tbx 163 a1 h fun w66 => cond (eqV 6 w66 v17) (
 cf 99 [v9, v10] h n fun v22 h n =>
 evLoad tbx 163 a1 h fun w65 => cond (eqV 6 w65 v2) (
 evLoad tbx 163 a1 h fun w64 => cond (eqV 6 w64 v11) (
 evLoad tbx 163 a1 h fun w63 => cond (eqV 6 w63 v13) (
 evLoad tbx 163 a1 h fun w62 => cond (eqV 6 w62 v15) (
 evLoad tbx 163 a1 h fun w61 => cond (eqV 6 w61 v17) (
 cf 99 [v11, v12] h n fun v23 h n =>
 evLoad tbx 163 a1 h fun w60 => cond (eqV 6 w60 v2) (
 evLoad tbx 163 a1 h fun w59 => cond (eqV 6 w59 v13) (
 evLoad tbx 163 a1 h fun w58 => cond (eqV 6 w58 v15) (
 evLoad tbx 163 a1 h fun w57 => cond (eqV 6 w57 v17) (
 cf 99 [v13, v14] h n fun v24 h n =>
 evLoad tbx 163 a1 h fun w56 => cond (eqV 6 w56 v2) (
 evLoad tbx 163 a1 h fun w55 => cond (eqV 6 w55 v15) (
 evLoad tbx 163 a1 h fun w54 => cond (eqV 6 w54 v17) (
 cf 156 [v15, v16] h n fun v25 h n =>
 evLoad tbx 163 a1 h fun w53 => cond (eqV 6 w53 v2) (
 evLoad tbx 163 a1 h fun w52 => cond (eqV 6 w52 v17) (
 cf 157 [v17, v18] h n fun v26 h n =>
 alB n fun n' => litA [((.s 7 29117745638426980), v19), ((.s 10 460180866011107895298404), v20), ((.s 7 33325589488824174), v21), ((.s 4 1954115685), v22), ((.s 10 469513552247196035409266), v23), ((.s 5 495589486693), v24), ((.s 8 8030046131791487340), v25), ((.s 10 479179788288925102993011), v26)] fun x mk => 
 (fun (v27 : V) h n =>
 evLoad tbx 163 a1 h fun w51 => cond (eqV 6 w51 v2) (
 ckO (vId v27) h fun id x' => litA [((.s 7 29117745638426980), v19), ((.s 10 460180866011107895298404), v20), ((.s 7 33325589488824174), v21), ((.s 4 1954115685), v22), ((.s 10 469513552247196035409266), v23), ((.s 5 495589486693), v24), ((.s 8 8030046131791487340), v25), ((.s 10 479179788288925102993011), v26)] fun x mk => cond (eqO x' x) (cond (eqV 6 (mk id) v27) (
 cf 98 [v2, a0, v27] h n fun v28 h n =>
 evLoad tbx 175 a2 h fun v29 =>
 evLoad tbx 175 a2 h fun v30 =>
 evNc' v30 fun v31 =>
 evLoad tbx 30 v31 h fun v32 =>
 evLoad tbx 51 v1 h fun v33 =>
 evLoad tbx 175 a2 h fun w50 => cond (eqV 6 w50 v29) (
 evLoad tbx 175 a2 h fun w49 => cond (eqV 6 w49 v30) (
 evLoad tbx 30 v31 h fun w48 => cond (eqV 6 w48 v32) (
 evLoad tbx 51 v1 h fun w47 => cond (eqV 6 w47 v33) (
 evBuildSl tbx 30 1 [(0, v33)] h n fun v34 h n =>
 evLoad tbx 175 a2 h fun w46 => cond (eqV 6 w46 v29) (
 evLoad tbx 175 a2 h fun w45 => cond (eqV 6 w45 v30) (
 evLoad tbx 30 v31 h fun w44 => cond (eqV 6 w44 v32) (
 evApp tbx 30 30 v32 v34 h n fun v35 h n =>
 evNc' v29 fun v36 =>
 evLoad tbx 175 a2 h fun w43 => cond (eqV 6 w43 v29) (
 evStore tbx 30 v36 v35 h n fun _ h n =>
 evFa tbx 51 0 v1 fun v37 =>
 evLoad tbx 9 v37 h fun v38 =>
 evFa tbx 51 1 v1 fun v39 =>
 evLoad tbx 9 v39 h fun v40 =>
 evBuildSl tbx 71 2 [(0, v38), (1, v40)] h n fun v41 h n =>
 cf 104 [v28, v41] h n fun v42 h n =>
 k v42 h n) none) none) none) none) none) none) none) none) none) none) none) (mk n) (hset x n h) n') none) none) none) none) none) none) none) none) none) none) none) none) none) none) none) none) none) none) none) none) none) none) none) none) none) none) none) none) none) none) none) none) none) none) none) none) none) none) none) none) none) none) none) none
noncomputable def e155 : FE := ⟨Tryz.f155, bd Tryz.f155, [0, 1, 2], [4], (.q .z (.q .z (.q .z (.q .z (.q .z .z)))))⟩
theorem q155 (fu : Nat) (cf : CF) (a0 a1 a2 : V) (h : H) (n : Id) (k : KV) : evF fu cf e155 [a0, a1, a2] h n k = s155 fu cf a0 a1 a2 h n k := by kernel_rfl
theorem p155 : PfOk Tryz.prog tbx mtab 155 (w3 (s155 fuX)) := pfo e155 Tryz.func155 (by kernel_rfl) (w3_ok (q155 fuX))
noncomputable def s156 (fu : Nat) (cf : CF) (a0 a1 : V) (h : H) (n : Id) (k : KV) : R :=
 evBox a0 h n fun v1 h n =>
 evBox a1 h n fun v2 h n =>
 let v3 : V := (.fn 213 [v1, v2])
 k v3 h n
noncomputable def e156 : FE := ⟨Tryz.f156, bd Tryz.f156, [0, 1], [4], (.q .z (.q .z .z))⟩
theorem q156 (fu : Nat) (cf : CF) (a0 a1 : V) (h : H) (n : Id) (k : KV) : evF fu cf e156 [a0, a1] h n k = s156 fu cf a0 a1 h n k := by kernel_rfl
theorem p156 : PfOk Tryz.prog tbx mtab 156 (w2 (s156 fuX)) := pfo e156 Tryz.func156 (by kernel_rfl) (w2_ok (q156 fuX))
noncomputable def s157 (fu : Nat) (cf : CF) (a0 a1 : V) (h : H) (n : Id) (k : KV) : R :=
 evBox a0 h n fun v1 h n =>
 evBox a1 h n fun v2 h n =>
 let v3 : V := (.fn 214 [v1, v2])
 k v3 h n
noncomputable def e157 : FE := ⟨Tryz.f157, bd Tryz.f157, [0, 1], [4], (.q .z (.q .z .z))⟩
theorem q157 (fu : Nat) (cf : CF) (a0 a1 : V) (h : H) (n : Id) (k : KV) : evF fu cf e157 [a0, a1] h n k = s157 fu cf a0 a1 h n k := by kernel_rfl
theorem p157 : PfOk Tryz.prog tbx mtab 157 (w2 (s157 fuX)) := pfo e157 Tryz.func157 (by kernel_rfl) (w2_ok (q157 fuX))
noncomputable def s158 (fu : Nat) (cf : CF) (a0 : V) (h : H) (n : Id) (k : KV) : R :=
 evLen tbx 71 a0 fun v1 =>
 jp (fun (s2 : VT []) h n =>
 k (.i .i64 0) h n) fun kk3 =>
 lpC [5, 6, 7] (fun lo5 s4 h n =>
 pc s4 fun v6 s7 =>
 pc s7 fun v8 s9 =>
 pc s9 fun v10 s11 =>
 evBin2 tbx .lss 3 v10 v8 fun v12 =>
 brB v12 (
 jp (fun (s13 : VT [5, 6, 7]) h n =>
 pc s13 fun v15 s16 =>
 pc s16 fun v17 s18 =>
 pc s18 fun v19 s20 =>
 evBin2 tbx .add 3 v19 (.i .i64 1) fun v21 =>
 lo5 (v15, v17, v21, ()) h n) fun kk14 =>
 evIa tbx 71 v6 v10 fun v22 =>
 evLoad tbx 9 v22 h fun v23 =>
 evBin2 tbx .eql 9 v23 (.s 0 0) fun v24 =>
 brB v24 (
 k (.i .i64 10) h n) (
 kk14 (v6, v8, v10, ()) h n)) (
 kk3 (()) h n)) fu (a0, v1, (.i .i64 0), ()) h n
noncomputable def e158 : FE := ⟨Tryz.f158, bd Tryz.f158, [0], [2], (.q .z (.q (.q .z (.b [] (.l [5, 6, 7] (.q .z (.q (.c .z .z) (.q (.b [5, 6, 7] (.q .z (.q .z (.c (.q .z .z) .z)))) .z)))))) (.q .z .z)))⟩
theorem q158 (fu : Nat) (cf : CF) (a0 : V) (h : H) (n : Id) (k : KV) : evF fu cf e158 [a0] h n k = s158 fu cf a0 h n k := by kernel_rfl
theorem p158 : PfOk Tryz.prog tbx mtab 158 (w1 (s158 fuX)) := pfo e158 Tryz.func158 (by kernel_rfl) (w1_ok (q158 fuX))
noncomputable def s171 (fu : Nat) (cf : CF) (a0 a1 : V) (h : H) (n : Id) (k : KV) : R :=
 cf 223 [a0, a1] h n fun v1 h n =>
 k v1 h n
noncomputable def e171 : FE := ⟨Tryz.f171, bd Tryz.f171, [0, 1], [4], (.q .z (.q .z .z))⟩
theorem q171 (fu : Nat) (cf : CF) (a0 a1 : V) (h : H) (n : Id) (k : KV) : evF fu cf e171 [a0, a1] h n k = s171 fu cf a0 a1 h n k := by kernel_rfl
theorem p171 : PfOk Tryz.prog tbx mtab 171 (w2 (s171 fuX)) := pfo e171 Tryz.func171 (by kernel_rfl) (w2_ok (q171 fuX))
noncomputable def s174 (fu : Nat) (cf : CF) (a0 a1 : V) (h : H) (n : Id) (k : KV) : R :=
 cf 228 [a0, a1] h n fun v1 h n =>
 evExt 0 v1 fun v2 =>
 evExt 1 v1 fun v3 =>
 k (.tp [v2, v3]) h n
noncomputable def e174 : FE := ⟨Tryz.f174, bd Tryz.f174, [0, 1], [4, 5], (.q .z (.q .z .z))⟩
theorem q174 (fu : Nat) (cf : CF) (a0 a1 : V) (h : H) (n : Id) (k : KV) : evF fu cf e174 [a0, a1] h n k = s174 fu cf a0 a1 h n k := by kernel_rfl
theorem p174 : PfOk Tryz.prog tbx mtab 174 (w2 (s174 fuX)) := pfo e174 Tryz.func174 (by kernel_rfl) (w2_ok (q174 fuX))
noncomputable def s186 (fu : Nat) (cf : CF) (a0 a1 a2 a3 a4 : V) (h : H) (n : Id) (k : KV) : R :=
 evIa tbx 79 a0 a2 fun v1 =>
 evLoad tbx 24 v1 h fun v2 =>
 evIa tbx 79 a0 a1 fun v3 =>
 evLoad tbx 24 v3 h fun v4 =>
 evLoad tbx 24 v1 h fun w12 => cond (eqV 6 w12 v2) (
 evLoad tbx 24 v3 h fun w11 => cond (eqV 6 w11 v4) (
 evCall cf a4 [v2, v4] h n fun v5 h n =>
 evBin2 tbx .lss 3 v5 (.i .i64 0) fun v6 =>
 brB v6 (
 evNc' a3 fun v7 =>
 evLoad tbx 3 v7 h fun v8 =>
 evBin2 tbx .add 3 v8 (.i .i64 1) fun v9 =>
 evNc' a3 fun v10 =>
 evStore tbx 3 v10 v9 h n fun _ h n =>
 k (.tp [a2, a1]) h n) (
 k (.tp [a1, a2]) h n)) none) none
noncomputable def e186 : FE := ⟨Tryz.f186, bd Tryz.f186, [0, 1, 2, 3, 4], [10, 11], (.q .z (.q (.q .z (.c (.q .z (.q .z .z)) .z)) (.q .z .z)))⟩
theorem q186 (fu : Nat) (cf : CF) (a0 a1 a2 a3 a4 : V) (h : H) (n : Id) (k : KV) : evF fu cf e186 [a0, a1, a2, a3, a4] h n k = s186 fu cf a0 a1 a2 a3 a4 h n k := by kernel_rfl
theorem p186 : PfOk Tryz.prog tbx mtab 186 (w5 (s186 fuX)) := pfo e186 Tryz.func186 (by kernel_rfl) (w5_ok (q186 fuX))
noncomputable def s187 (fu : Nat) (cf : CF) (a0 a1 : V) (h : H) (n : Id) (k : KV) : R :=
 cf 236 [a0] h n fun v1 h n =>
 cf 236 [a1] h n fun v2 h n =>
 brB v1 (
 brB v2 (
 k (.i .i64 0) h n) (
 k (.i .i64 (-1)) h n)) (
 brB v2 (
 k (.i .i64 1) h n) (
 evBin2 tbx .lss 3 a0 a1 fun v3 =>
 brB v3 (
 k (.i .i64 (-1)) h n) (
 evBin2 tbx .gtr 3 a0 a1 fun v4 =>
 brB v4 (
 k (.i .i64 1) h n) (
 k (.i .i64 0) h n))))
noncomputable def e187 : FE := ⟨Tryz.f187, bd Tryz.f187, [0, 1], [4], (.q .z (.q .z (.q .z (.q (.q .z (.c (.q (.q .z (.c (.q .z .z) .z)) (.q .z .z)) .z)) (.q (.q .z (.c (.q .z .z) .z)) (.q (.q .z (.c (.q .z .z) .z)) (.q (.q .z (.c (.q .z .z) .z)) (.q .z .z))))))))⟩
theorem q187 (fu : Nat) (cf : CF) (a0 a1 : V) (h : H) (n : Id) (k : KV) : evF fu cf e187 [a0, a1] h n k = s187 fu cf a0 a1 h n k := by kernel_rfl
theorem p187 : PfOk Tryz.prog tbx mtab 187 (w2 (s187 fuX)) := pfo e187 Tryz.func187 (by kernel_rfl) (w2_ok (q187 fuX))
noncomputable def s188 (fu : Nat) (cf : CF) (a0 : V) (h : H) (n : Id) (k : KV) : R :=
 evBin2 tbx .geq 5 a0 (.i .u8 48) fun v1 =>
 jp (fun (v2 : V) h n =>
 jp (fun (v4 : V) h n =>
 evPick v1 v4 (.b false) fun v6 =>
 k v6 h n) fun kk5 =>
 gdB v1 true ((evBin2 tbx .leq 5 v2 (.i .u8 57) fun v => kk5 v h n)) (kk5 (.tp []) h n)) fun kk3 =>
 gdB v1 true (kk3 a0 h n) (kk3 (.tp []) h n)
noncomputable def e188 : FE := ⟨Tryz.f188, bd Tryz.f188, [0], [2], (.q .z (.q .z .z))⟩
theorem q188 (fu : Nat) (cf : CF) (a0 : V) (h : H) (n : Id) (k : KV) : evF fu cf e188 [a0] h n k = s188 fu cf a0 h n k := by kernel_rfl
theorem p188 : PfOk Tryz.prog tbx mtab 188 (w1 (s188 fuX)) := pfo e188 Tryz.func188 (by kernel_rfl) (w1_ok (q188 fuX))
noncomputable def s190 (fu : Nat) (cf : CF) (a0 a1 : V) (h : H) (n : Id) (k : KV) : R :=
 evBin2 tbx .eql 9 a0 (.s 0 0) fun v1 =>
 jp (fun (v2 : V) h n =>
 jp (fun (v4 : V) h n =>
 evPick v1 (.b true) v4 fun v6 =>
 brB v6 (
 k a0 h n) (
 evLen tbx 9 a1 fun v7 =>
 evBin2 tbx .eql 3 v7 (.i .i64 1) fun v8 =>
 jp (fun (v9 : V) h n =>
 jp (fun (v11 : V) h n =>
 jp (fun (v13 : V) h n =>
 evPick v8 v13 (.b false) fun v15 =>
 brB v15 (
 evIx tbx 9 a1 (.i .i64 0) fun v16 =>
 cf 237 [a0, v16] h n fun v17 h n =>
 k v17 h n) (
 cf 238 [a1] h n fun v18 h n =>
 evExt 0 v18 fun v19 =>
 evExt 1 v18 fun v20 =>
 evAlloc tbx 293 h n fun v21 h n =>
 evStore tbx 293 v21 v19 h n fun _ h n =>
 brB v20 (
 cf 239 [a0, v21] h n fun v22 h n =>
 k v22 h n) (
 cf 240 [a0, a1] h n fun v23 h n =>
 k v23 h n))) fun kk14 =>
 gdB v8 true ((evBin2 tbx .lss 5 v11 (.i .u8 128) fun v => kk14 v h n)) (kk14 (.tp []) h n)) fun kk12 =>
 gdB v8 true ((evIx tbx 9 v9 (.i .i64 0) fun v => kk12 v h n)) (kk12 (.tp []) h n)) fun kk10 =>
 gdB v8 true (kk10 a1 h n) (kk10 (.tp []) h n))) fun kk5 =>
 gdB v1 false ((evBin2 tbx .eql 9 v2 (.s 0 0) fun v => kk5 v h n)) (kk5 (.tp []) h n)) fun kk3 =>
 gdB v1 false (kk3 a1 h n) (kk3 (.tp []) h n)
noncomputable def e190 : FE := ⟨Tryz.f190, bd Tryz.f190, [0, 1], [4], (.q .z (.q (.q .z (.c (.q .z .z) .z)) (.q (.q .z (.c (.q .z .z) .z)) (.q (.q .z (.q .z (.c (.q .z .z) .z))) (.q .z .z)))))⟩
theorem q190 (fu : Nat) (cf : CF) (a0 a1 : V) (h : H) (n : Id) (k : KV) : evF fu cf e190 [a0, a1] h n k = s190 fu cf a0 a1 h n k := by kernel_rfl
theorem p190 : PfOk Tryz.prog tbx mtab 190 (w2 (s190 fuX)) := pfo e190 Tryz.func190 (by kernel_rfl) (w2_ok (q190 fuX))
noncomputable def s195 (fu : Nat) (cf : CF) (a0 : V) (h : H) (n : Id) (k : KV) : R :=
 evBin2 tbx .eql 5 a0 (.i .u8 9) fun v1 =>
 jp (fun (v2 : V) h n =>
 jp (fun (v4 : V) h n =>
 evPick v1 (.b true) v4 fun v6 =>
 jp (fun (v7 : V) h n =>
 jp (fun (v9 : V) h n =>
 evPick v6 (.b true) v9 fun v11 =>
 jp (fun (v12 : V) h n =>
 jp (fun (v14 : V) h n =>
 evPick v11 (.b true) v14 fun v16 =>
 k v16 h n) fun kk15 =>
 gdB v11 false ((evBin2 tbx .eql 5 v12 (.i .u8 32) fun v => kk15 v h n)) (kk15 (.tp []) h n)) fun kk13 =>
 gdB v11 false (kk13 a0 h n) (kk13 (.tp []) h n)) fun kk10 =>
 gdB v6 false ((evBin2 tbx .eql 5 v7 (.i .u8 13) fun v => kk10 v h n)) (kk10 (.tp []) h n)) fun kk8 =>
 gdB v6 false (kk8 a0 h n) (kk8 (.tp []) h n)) fun kk5 =>
 gdB v1 false ((evBin2 tbx .eql 5 v2 (.i .u8 10) fun v => kk5 v h n)) (kk5 (.tp []) h n)) fun kk3 =>
 gdB v1 false (kk3 a0 h n) (kk3 (.tp []) h n)
noncomputable def e195 : FE := ⟨Tryz.f195, bd Tryz.f195, [0], [2], (.q .z (.q .z .z))⟩
theorem q195 (fu : Nat) (cf : CF) (a0 : V) (h : H) (n : Id) (k : KV) : evF fu cf e195 [a0] h n k = s195 fu cf a0 h n k := by kernel_rfl
theorem p195 : PfOk Tryz.prog tbx mtab 195 (w1 (s195 fuX)) := pfo e195 Tryz.func195 (by kernel_rfl) (w1_ok (q195 fuX))
noncomputable def s196 (fu : Nat) (cf : CF) (a0 a1 : V) (h : H) (n : Id) (k : KV) : R :=
 evNc' a0 fun v1 =>
 evFa tbx 214 0 v1 fun v2 =>
 evLoad tbx 9 v2 h fun v3 =>
 cf 174 [v3, a1] h n fun v4 h n =>
 evExt 0 v4 fun v5 =>
 evExt 1 v4 fun v6 =>
 evNc' a0 fun v7 =>
 evFa tbx 214 0 v7 fun v8 =>
 evStore tbx 9 v8 v5 h n fun _ h n =>
 k v6 h n
noncomputable def e196 : FE := ⟨Tryz.f196, bd Tryz.f196, [0, 1], [4], (.q .z (.q .z (.q .z (.q .z .z))))⟩
theorem q196 (fu : Nat) (cf : CF) (a0 a1 : V) (h : H) (n : Id) (k : KV) : evF fu cf e196 [a0, a1] h n k = s196 fu cf a0 a1 h n k := by kernel_rfl
theorem p196 : PfOk Tryz.prog tbx mtab 196 (w2 (s196 fuX)) := pfo e196 Tryz.func196 (by kernel_rfl) (w2_ok (q196 fuX))
noncomputable def s200 (fu : Nat) (cf : CF) (a0 : V) (h : H) (n : Id) (k : KV) : R :=
 cf 245 [a0] h n fun v1 h n =>
 cf 246 [a0] h n fun v2 h n =>
 evBin2 tbx .neq 9 v1 (.s 0 0) fun v3 =>
 jp (fun (v4 : V) h n =>
 jp (fun (v6 : V) h n =>
 evPick v3 v6 (.b false) fun v8 =>
 jp (fun (v9 : V) h n =>
 jp (fun (v11 : V) h n =>
 jp (fun (v13 : V) h n =>
 jp (fun (v15 : V) h n =>
 evPick v8 v15 (.b false) fun v17 =>
 k v17 h n) fun kk16 =>
 gdB v8 true ((cf 244 [v9, v13] h n kk16)) (kk16 (.tp []) h n)) fun kk14 =>
 gdB v8 true ((evBuild tbx 222 [(0, (.i .i64 2)), (1, v11)] fun v => kk14 v h n)) (kk14 (.tp []) h n)) fun kk12 =>
 gdB v8 true (kk12 v1 h n) (kk12 (.tp []) h n)) fun kk10 =>
 gdB v8 true (kk10 a0 h n) (kk10 (.tp []) h n)) fun kk7 =>
 gdB v3 true ((cf 196 [v4, (.s 1 62)] h n kk7)) (kk7 (.tp []) h n)) fun kk5 =>
 gdB v3 true (kk5 a0 h n) (kk5 (.tp []) h n)
noncomputable def e200 : FE := ⟨Tryz.f200, bd Tryz.f200, [0], [2], (.q .z (.q .z (.q .z (.q .z .z))))⟩
theorem q200 (fu : Nat) (cf : CF) (a0 : V) (h : H) (n : Id) (k : KV) : evF fu cf e200 [a0] h n k = s200 fu cf a0 h n k := by kernel_rfl
theorem p200 : PfOk Tryz.prog tbx mtab 200 (w1 (s200 fuX)) := pfo e200 Tryz.func200 (by kernel_rfl) (w1_ok (q200 fuX))
noncomputable def s201 (fu : Nat) (cf : CF) (a0 : V) (h : H) (n : Id) (k : KV) : R :=
 jp (fun (s3 : VT [2]) h n =>
 pc s3 fun v6 s7 =>
 k v6 h n) fun kk1 =>
 jp (lpC [0, 3] (fun lo5 s4 h n =>
 pc s4 fun v8 s9 =>
 pc s9 fun v10 s11 =>
 cf 246 [v8] h n fun v12 h n =>
 jp (fun (s13 : VT [0, 3]) h n =>
 pc s13 fun v15 s16 =>
 pc s16 fun v17 s18 =>
 cf 247 [v15] h n fun v19 h n =>
 evExt 0 v19 fun v20 =>
 evExt 1 v19 fun v21 =>
 evAlloc tbx 303 h n fun v22 h n =>
 evStore tbx 303 v22 v20 h n fun _ h n =>
 evUn .not v21 fun v23 =>
 jp (fun (v24 : V) h n =>
 jp (fun (v26 : V) h n =>
 jp (fun (v28 : V) h n =>
 jp (fun (v30 : V) h n =>
 evPick v23 (.b true) v30 fun v32 =>
 brB v32 (
 k (.b false) h n) (
 evFa tbx 222 3 v17 fun v33 =>
 evLoad tbx 160 v33 h fun v34 =>
 evLoad tbx 303 v22 h fun v35 =>
 evBuildSl tbx 160 1 [(0, v35)] h n fun v36 h n =>
 evApp tbx 160 160 v34 v36 h n fun v37 h n =>
 evFa tbx 222 3 v17 fun v38 =>
 evStore tbx 160 v38 v37 h n fun _ h n =>
 lo5 (v15, v17, ()) h n)) fun kk31 =>
 gdB v23 false ((cf 248 [v26, v28] h n kk31)) (kk31 (.tp []) h n)) fun kk29 =>
 gdB v23 false (kk29 (.fn 249 [v22]) h n) (kk29 (.tp []) h n)) fun kk27 =>
 gdB v23 false ((evLoad tbx 160 v24 h fun v => kk27 v h n)) (kk27 (.tp []) h n)) fun kk25 =>
 gdB v23 false ((evFa tbx 222 3 v17 fun v => kk25 v h n)) (kk25 (.tp []) h n)) fun kk14 =>
 cf 196 [v8, (.s 1 62)] h n fun v39 h n =>
 brB v39 (
 evLoad tbx 222 v10 h fun v40 =>
 cf 244 [v8, v40] h n fun v41 h n =>
 k v41 h n) (
 cf 196 [v8, (.s 2 12094)] h n fun v42 h n =>
 brB v42 (
 evFa tbx 222 4 v10 fun v43 =>
 evStore tbx 4 v43 (.b true) h n fun _ h n =>
 evLoad tbx 222 v10 h fun v44 =>
 cf 244 [v8, v44] h n fun v45 h n =>
 k v45 h n) (
 evUn .not v12 fun v46 =>
 brB v46 (
 k (.b false) h n) (
 kk14 (v8, v10, ()) h n)))) fu) fun lo2 =>
 cf 245 [a0] h n fun v47 h n =>
 evBuild tbx 222 [(0, (.i .i64 1)), (1, v47)] fun v48 =>
 evAlloc tbx 222 h n fun v49 h n =>
 evStore tbx 222 v49 v48 h n fun _ h n =>
 evFa tbx 222 1 v49 fun v50 =>
 evLoad tbx 9 v50 h fun v51 =>
 evBin2 tbx .eql 9 v51 (.s 0 0) fun v52 =>
 brB v52 (
 k (.b false) h n) (
 cf 246 [a0] h n fun v53 h n =>
 jp (fun (s54 : VT [0, 3]) h n =>
 pc s54 fun v56 s57 =>
 pc s57 fun v58 s59 =>
 cf 247 [v56] h n fun v60 h n =>
 evExt 0 v60 fun v61 =>
 evExt 1 v60 fun v62 =>
 evAlloc tbx 303 h n fun v63 h n =>
 evStore tbx 303 v63 v61 h n fun _ h n =>
 evUn .not v62 fun v64 =>
 jp (fun (v65 : V) h n =>
 jp (fun (v67 : V) h n =>
 jp (fun (v69 : V) h n =>
 jp (fun (v71 : V) h n =>
 evPick v64 (.b true) v71 fun v73 =>
 brB v73 (
 k (.b false) h n) (
 evFa tbx 222 3 v58 fun v74 =>
 evLoad tbx 160 v74 h fun v75 =>
 evLoad tbx 303 v63 h fun v76 =>
 evBuildSl tbx 160 1 [(0, v76)] h n fun v77 h n =>
 evApp tbx 160 160 v75 v77 h n fun v78 h n =>
 evFa tbx 222 3 v58 fun v79 =>
 evStore tbx 160 v79 v78 h n fun _ h n =>
 lo2 (v56, v58, ()) h n)) fun kk72 =>
 gdB v64 false ((cf 248 [v67, v69] h n kk72)) (kk72 (.tp []) h n)) fun kk70 =>
 gdB v64 false (kk70 (.fn 249 [v63]) h n) (kk70 (.tp []) h n)) fun kk68 =>
 gdB v64 false ((evLoad tbx 160 v65 h fun v => kk68 v h n)) (kk68 (.tp []) h n)) fun kk66 =>
 gdB v64 false ((evFa tbx 222 3 v58 fun v => kk66 v h n)) (kk66 (.tp []) h n)) fun kk55 =>
 cf 196 [a0, (.s 1 62)] h n fun v80 h n =>
 brB v80 (
 evLoad tbx 222 v49 h fun v81 =>
 cf 244 [a0, v81] h n fun v82 h n =>
 k v82 h n) (
 cf 196 [a0, (.s 2 12094)] h n fun v83 h n =>
 brB v83 (
 evFa tbx 222 4 v49 fun v84 =>
 evStore tbx 4 v84 (.b true) h n fun _ h n =>
 evLoad tbx 222 v49 h fun v85 =>
 cf 244 [a0, v85] h n fun v86 h n =>
 k v86 h n) (
 evUn .not v53 fun v87 =>
 brB v87 (
 k (.b false) h n) (
 kk55 (a0, v49, ()) h n))))
noncomputable def e201 : FE := ⟨Tryz.f201, bd Tryz.f201, [0], [2], (.q .z (.g 0 [0, 3] [2] (.q .z (.q (.q .z (.c (.q .z .z) .z)) (.q .z (.q .z (.q (.b [0, 3] (.q .z (.c (.q .z .z) (.q .z (.c (.q .z (.q .z .z)) (.q .z (.c (.q .z .z) .z))))))) (.q .z (.q (.q .z (.c (.q .z .z) .z)) (.q .z .z)))))))) (.q .z (.q .z (.q (.b [0, 3] (.q .z (.c (.q .z .z) (.q .z (.c (.q .z (.q .z .z)) (.q .z (.c (.q .z .z) .z))))))) (.q .z (.q (.q .z (.c (.q .z .z) .z)) (.q .z .z))))))))⟩
theorem q201 (fu : Nat) (cf : CF) (a0 : V) (h : H) (n : Id) (k : KV) : evF fu cf e201 [a0] h n k = s201 fu cf a0 h n k := by kernel_rfl
theorem p201 : PfOk Tryz.prog tbx mtab 201 (w1 (s201 fuX)) := pfo e201 Tryz.func201 (by kernel_rfl) (w1_ok (q201 fuX))
noncomputable def s202 (fu : Nat) (cf : CF) (a0 : V) (h : H) (n : Id) (k : KV) : R :=
 evNc' a0 fun v1 =>
 evFa tbx 214 0 v1 fun v2 =>
 evLoad tbx 9 v2 h fun v3 =>
 cf 93 [v3, (.i .u8 60)] h n fun v4 h n =>
 jp (fun (s5 : VT [0, 3]) h n =>
 pc s5 fun v7 s8 =>
 pc s8 fun v9 s10 =>
 evNc' v7 fun v11 =>
 evFa tbx 214 0 v11 fun v12 =>
 evLoad tbx 9 v12 h fun v13 =>
 evSlc tbx 9 v13 none (some v9) fun v14 =>
 cf 250 [v14] h n fun v15 h n =>
 evExt 0 v15 fun v16 =>
 evExt 1 v15 fun v17 =>
 evNc' v7 fun v18 =>
 evFa tbx 214 0 v18 fun v19 =>
 evLoad tbx 9 v19 h fun v20 =>
 evSlc tbx 9 v20 (some v9) none fun v21 =>
 evNc' v7 fun v22 =>
 evFa tbx 214 0 v22 fun v23 =>
 evStore tbx 9 v23 v21 h n fun _ h n =>
 evBin2 tbx .eql 33 v17 (.i .i64 0) fun v24 =>
 jp (fun (v25 : V) h n =>
 jp (fun (v27 : V) h n =>
 jp (fun (v29 : V) h n =>
 jp (fun (v31 : V) h n =>
 evPick v24 v31 (.b false) fun v33 =>
 k v33 h n) fun kk32 =>
 gdB v24 true ((cf 244 [v25, v29] h n kk32)) (kk32 (.tp []) h n)) fun kk30 =>
 gdB v24 true ((evBuild tbx 222 [(0, (.i .i64 3)), (2, v27)] fun v => kk30 v h n)) (kk30 (.tp []) h n)) fun kk28 =>
 gdB v24 true (kk28 v16 h n) (kk28 (.tp []) h n)) fun kk26 =>
 gdB v24 true (kk26 v7 h n) (kk26 (.tp []) h n)) fun kk6 =>
 evBin2 tbx .lss 3 v4 (.i .i64 0) fun v34 =>
 brB v34 (
 evNc' a0 fun v35 =>
 evFa tbx 214 0 v35 fun v36 =>
 evLoad tbx 9 v36 h fun v37 =>
 evLen tbx 9 v37 fun v38 =>
 kk6 (a0, v38, ()) h n) (
 kk6 (a0, v4, ()) h n)
noncomputable def e202 : FE := ⟨Tryz.f202, bd Tryz.f202, [0], [2], (.q .z (.q .z (.s [0, 3] (.q .z (.c .z .z)) (.q .z (.q .z (.q .z .z))))))⟩
theorem q202 (fu : Nat) (cf : CF) (a0 : V) (h : H) (n : Id) (k : KV) : evF fu cf e202 [a0] h n k = s202 fu cf a0 h n k := by kernel_rfl
theorem p202 : PfOk Tryz.prog tbx mtab 202 (w1 (s202 fuX)) := pfo e202 Tryz.func202 (by kernel_rfl) (w1_ok (q202 fuX))
noncomputable def s203 (fu : Nat) (cf : CF) (a0 a1 : V) (h : H) (n : Id) (k : KV) : R :=
 evBox a1 h n fun v1 h n =>
 jp (fun (s2 : VT [0, 3]) h n =>
 pc s2 fun v4 s5 =>
 pc s5 fun v6 s7 =>
 evFa tbx 222 1 v6 fun v8 =>
 evLoad tbx 9 v8 h fun v9 =>
 evFa tbx 222 3 v6 fun v10 =>
 evLoad tbx 160 v10 h fun v11 =>
 evLoad tbx 9 v8 h fun w38 => cond (eqV 6 w38 v9) (
 evLoad tbx 160 v10 h fun w37 => cond (eqV 6 w37 v11) (
 cf 252 [v11] h n fun v12 h n =>
 evBuild tbx 162 [(1, v9), (3, v12)] fun v13 =>
 evLoad tbx 9 v8 h fun w36 => cond (eqV 6 w36 v9) (
 cf 251 [v4, v13] h n fun v14 h n =>
 evBin2 tbx .neq 33 v14 (.i .i64 0) fun v15 =>
 brB v15 (
 k v14 h n) (
 jp (fun (s16 : VT []) h n =>
 k (.i .i64 0) h n) fun kk17 =>
 evFa tbx 222 4 v6 fun v18 =>
 evLoad tbx 4 v18 h fun v19 =>
 evUn .not v19 fun v20 =>
 brB v20 (
 evNc' v4 fun v21 =>
 evFa tbx 219 1 v21 fun v22 =>
 evLoad tbx 149 v22 h fun v23 =>
 evNc' v4 fun v24 =>
 evFa tbx 219 0 v24 fun v25 =>
 evLoad tbx 114 v25 h fun v26 =>
 evLen tbx 114 v26 fun v27 =>
 evBin2 tbx .sub 3 v27 (.i .i64 1) fun v28 =>
 evLoad tbx 149 v22 h fun w35 => cond (eqV 6 w35 v23) (
 evLoad tbx 114 v25 h fun w34 => cond (eqV 6 w34 v26) (
 evBuildSl tbx 149 1 [(0, v28)] h n fun v29 h n =>
 evLoad tbx 149 v22 h fun w33 => cond (eqV 6 w33 v23) (
 evApp tbx 149 149 v23 v29 h n fun v30 h n =>
 evNc' v4 fun v31 =>
 evFa tbx 219 1 v31 fun v32 =>
 evStore tbx 149 v32 v30 h n fun _ h n =>
 kk17 (()) h n) none) none) none) (
 kk17 (()) h n))) none) none) none) fun kk3 =>
 evFa tbx 222 1 v1 fun v39 =>
 evLoad tbx 9 v39 h fun v40 =>
 evBin2 tbx .eql 9 v40 (.s 0 0) fun v41 =>
 brB v41 (
 k (.i .i64 5) h n) (
 evNc' a0 fun v42 =>
 evFa tbx 219 1 v42 fun v43 =>
 evLoad tbx 149 v43 h fun v44 =>
 evLen tbx 149 v44 fun v45 =>
 evBin2 tbx .eql 3 v45 (.i .i64 0) fun v46 =>
 jp (fun (v47 : V) h n =>
 jp (fun (v49 : V) h n =>
 jp (fun (v51 : V) h n =>
 jp (fun (v53 : V) h n =>
 jp (fun (v55 : V) h n =>
 jp (fun (v57 : V) h n =>
 evPick v46 v57 (.b false) fun v59 =>
 brB v59 (
 k (.i .i64 6) h n) (
 evNc' a0 fun v60 =>
 evFa tbx 219 1 v60 fun v61 =>
 evLoad tbx 149 v61 h fun v62 =>
 evLen tbx 149 v62 fun v63 =>
 evBin2 tbx .geq 3 v63 (.i .i64 20) fun v64 =>
 brB v64 (
 k (.i .i64 7) h n) (
 kk3 (a0, v1, ()) h n))) fun kk58 =>
 gdB v46 true ((evBin2 tbx .gtr 3 v55 (.i .i64 0) fun v => kk58 v h n)) (kk58 (.tp []) h n)) fun kk56 =>
 gdB v46 true ((evLen tbx 114 v53 fun v => kk56 v h n)) (kk56 (.tp []) h n)) fun kk54 =>
 gdB v46 true ((evLoad tbx 114 v51 h fun v => kk54 v h n)) (kk54 (.tp []) h n)) fun kk52 =>
 gdB v46 true ((evFa tbx 219 0 v49 fun v => kk52 v h n)) (kk52 (.tp []) h n)) fun kk50 =>
 gdB v46 true ((evNc' v47 fun v => kk50 v h n)) (kk50 (.tp []) h n)) fun kk48 =>
 gdB v46 true (kk48 a0 h n) (kk48 (.tp []) h n))
noncomputable def e203 : FE := ⟨Tryz.f203, bd Tryz.f203, [0, 1], [4], (.q .z (.q (.b [0, 3] (.q .z (.c (.q .z .z) (.q .z (.c (.q .z .z) (.q .z (.c (.q .z .z) .z))))))) (.q (.q .z (.q .z (.c (.q .z .z) .z))) (.s [] (.q .z (.c .z .z)) (.q .z .z)))))⟩
theorem q203 (fu : Nat) (cf : CF) (a0 a1 : V) (h : H) (n : Id) (k : KV) : evF fu cf e203 [a0, a1] h n k = s203 fu cf a0 a1 h n k := by kernel_rfl
theorem p203 : PfOk Tryz.prog tbx mtab 203 (w2 (s203 fuX)) := pfo e203 Tryz.func203 (by kernel_rfl) (w2_ok (q203 fuX))
noncomputable def s204 (fu : Nat) (cf : CF) (a0 a1 : V) (h : H) (n : Id) (k : KV) : R :=
 evBox a1 h n fun v1 h n =>
 cf 253 [a0] h n fun v2 h n =>
 evBin2 tbx .lss 3 v2 (.i .i64 0) fun v3 =>
 jp (fun (v4 : V) h n =>
 jp (fun (v6 : V) h n =>
 jp (fun (v8 : V) h n =>
 jp (fun (v10 : V) h n =>
 jp (fun (v12 : V) h n =>
 jp (fun (v14 : V) h n =>
 jp (fun (v16 : V) h n =>
 jp (fun (v18 : V) h n =>
 jp (fun (v20 : V) h n =>
 jp (fun (v22 : V) h n =>
 jp (fun (v24 : V) h n =>
 evPick v3 (.b true) v24 fun v26 =>
 thenR (wsB (wV v3 false) (evLoad tbx 114 v8 h fun w27 => cond (eqV 6 w27 v10) (okR) none) (cond (eqV 2 v10 (.tp [])) okR none)) (
 thenR (wsB (wV v3 false) (evLoad tbx 9 v16 h fun w28 => cond (eqV 6 w28 v18) (okR) none) (cond (eqV 2 v18 (.tp [])) okR none)) (
 thenR (wsB (wV v3 false) (evLoad tbx 9 v20 h fun w29 => cond (eqV 6 w29 v22) (okR) none) (cond (eqV 2 v22 (.tp [])) okR none)) (
 brB v26 (
 k (.i .i64 6) h n) (
 evNc' a0 fun v30 =>
 evFa tbx 219 1 v30 fun v31 =>
 evLoad tbx 149 v31 h fun v32 =>
 evNc' a0 fun v33 =>
 evFa tbx 219 1 v33 fun v34 =>
 evLoad tbx 149 v34 h fun v35 =>
 evLen tbx 149 v35 fun v36 =>
 evBin2 tbx .sub 3 v36 (.i .i64 1) fun v37 =>
 evSlc tbx 149 v32 none (some v37) fun v38 =>
 evNc' a0 fun v39 =>
 evFa tbx 219 1 v39 fun v40 =>
 evLoad tbx 149 v31 h fun w42 => cond (eqV 6 w42 v32) (
 evLoad tbx 149 v34 h fun w41 => cond (eqV 6 w41 v35) (
 evStore tbx 149 v40 v38 h n fun _ h n =>
 k (.i .i64 0) h n) none) none))))) fun kk25 =>
 wsB (wV v3 false) ((evBin2 tbx .neq 9 v18 v22 fun v => kk25 v h n)) (kk25 (.tp []) h n)) fun kk23 =>
 wsB (wV v3 false) ((evLoad tbx 9 v20 h fun v => kk23 v h n)) (kk23 (.tp []) h n)) fun kk21 =>
 wsB (wV v3 false) ((evFa tbx 222 1 v1 fun v => kk21 v h n)) (kk21 (.tp []) h n)) fun kk19 =>
 wsB (wV v3 false) ((evLoad tbx 9 v16 h fun v => kk19 v h n)) (kk19 (.tp []) h n)) fun kk17 =>
 wsB (wV v3 false) ((evFa tbx 162 1 v14 fun v => kk17 v h n)) (kk17 (.tp []) h n)) fun kk15 =>
 wsB (wV v3 false) ((evIa tbx 114 v10 v12 fun v => kk15 v h n)) (kk15 (.tp []) h n)) fun kk13 =>
 wsB (wV v3 false) (kk13 v2 h n) (kk13 (.tp []) h n)) fun kk11 =>
 wsB (wV v3 false) ((evLoad tbx 114 v8 h fun v => kk11 v h n)) (kk11 (.tp []) h n)) fun kk9 =>
 wsB (wV v3 false) ((evFa tbx 219 0 v6 fun v => kk9 v h n)) (kk9 (.tp []) h n)) fun kk7 =>
 wsB (wV v3 false) ((evNc' v4 fun v => kk7 v h n)) (kk7 (.tp []) h n)) fun kk5 =>
 wsB (wV v3 false) (kk5 a0 h n) (kk5 (.tp []) h n)
noncomputable def e204 : FE := ⟨Tryz.f204, bd Tryz.f204, [0, 1], [4], (.q .z (.q .z (.q (.q .z (.c (.q .z .z) .z)) (.q .z (.q .z .z)))))⟩
theorem q204 (fu : Nat) (cf : CF) (a0 a1 : V) (h : H) (n : Id) (k : KV) : evF fu cf e204 [a0, a1] h n k = s204 fu cf a0 a1 h n k := by kernel_rfl
theorem p204 : PfOk Tryz.prog tbx mtab 204 (w2 (s204 fuX)) := pfo e204 Tryz.func204 (by kernel_rfl) (w2_ok (q204 fuX))
noncomputable def s205 (fu : Nat) (cf : CF) (a0 a1 : V) (h : H) (n : Id) (k : KV) : R :=
 cf 253 [a0] h n fun v1 h n =>
 evBin2 tbx .lss 3 v1 (.i .i64 0) fun v2 =>
 brB v2 (
 cf 210 [a1] h n fun v3 h n =>
 evBin2 tbx .neq 9 v3 (.s 0 0) fun v4 =>
 brB v4 (
 k (.i .i64 6) h n) (
 k (.i .i64 0) h n)) (
 evBin2 tbx .eql 9 a1 (.s 0 0) fun v5 =>
 brB v5 (
 k (.i .i64 0) h n) (
 evNc' a0 fun v6 =>
 evFa tbx 219 2 v6 fun v7 =>
 evLoad tbx 217 v7 h fun v8 =>
 evLook tbx mtab 217 v8 v1 true h fun v9 =>
 evExt 0 v9 fun v10 =>
 evExt 1 v9 fun v11 =>
 jp (fun (v12 : V) h n =>
 jp (fun (v14 : V) h n =>
 jp (fun (v16 : V) h n =>
 jp (fun (v18 : V) h n =>
 jp (fun (v20 : V) h n =>
 jp (fun (v22 : V) h n =>
 jp (fun (v24 : V) h n =>
 jp (fun (v26 : V) h n =>
 jp (fun (v28 : V) h n =>
 evPick v11 v28 (.b false) fun v30 =>
 brB v30 (
 evNc' a0 fun v31 =>
 evFa tbx 219 0 v31 fun v32 =>
 evLoad tbx 114 v32 h fun v33 =>
 evIa tbx 114 v33 v10 fun v34 =>
 evFa tbx 162 2 v34 fun v35 =>
 evLoad tbx 9 v35 h fun v36 =>
 evBin2 tbx .add 9 v36 a1 fun v37 =>
 evIa tbx 114 v33 v10 fun v38 =>
 evFa tbx 162 2 v38 fun v39 =>
 evStore tbx 9 v39 v37 h n fun _ h n =>
 k (.i .i64 0) h n) (
 evBuild tbx 162 [(2, a1)] fun v40 =>
 cf 251 [a0, v40] h n fun v41 h n =>
 k v41 h n)) fun kk29 =>
 gdB v11 true ((evBin2 tbx .eql 9 v26 (.s 0 0) fun v => kk29 v h n)) (kk29 (.tp []) h n)) fun kk27 =>
 gdB v11 true ((evLoad tbx 9 v24 h fun v => kk27 v h n)) (kk27 (.tp []) h n)) fun kk25 =>
 gdB v11 true ((evFa tbx 162 1 v22 fun v => kk25 v h n)) (kk25 (.tp []) h n)) fun kk23 =>
 gdB v11 true ((evIa tbx 114 v18 v20 fun v => kk23 v h n)) (kk23 (.tp []) h n)) fun kk21 =>
 gdB v11 true (kk21 v10 h n) (kk21 (.tp []) h n)) fun kk19 =>
 gdB v11 true ((evLoad tbx 114 v16 h fun v => kk19 v h n)) (kk19 (.tp []) h n)) fun kk17 =>
 gdB v11 true ((evFa tbx 219 0 v14 fun v => kk17 v h n)) (kk17 (.tp []) h n)) fun kk15 =>
 gdB v11 true ((evNc' v12 fun v => kk15 v h n)) (kk15 (.tp []) h n)) fun kk13 =>
 gdB v11 true (kk13 a0 h n) (kk13 (.tp []) h n)))
noncomputable def e205 : FE := ⟨Tryz.f205, bd Tryz.f205, [0, 1], [4], (.q .z (.q .z (.q (.q .z (.c (.q (.q .z (.c (.q .z .z) .z)) (.q .z .z)) .z)) (.q (.q .z (.c (.q .z .z) .z)) (.q (.q .z (.q .z (.c (.q .z (.q .z .z)) .z))) (.q .z .z))))))⟩
theorem q205 (fu : Nat) (cf : CF) (a0 a1 : V) (h : H) (n : Id) (k : KV) : evF fu cf e205 [a0, a1] h n k = s205 fu cf a0 a1 h n k := by kernel_rfl
theorem p205 : PfOk Tryz.prog tbx mtab 205 (w2 (s205 fuX)) := pfo e205 Tryz.func205 (by kernel_rfl) (w2_ok (q205 fuX))
noncomputable def s206 (fu : Nat) (cf : CF) (a0 : V) (h : H) (n : Id) (k : KV) : R :=
 evConv2 tbx mtab 9 73 a0 h n fun v1 h n =>
 cf 91 [v1, (.fn 254 [])] h n fun v2 h n =>
 evUn .not v2 fun v3 =>
 k v3 h n
noncomputable def e206 : FE := ⟨Tryz.f206, bd Tryz.f206, [0], [2], (.q .z (.q .z .z))⟩
theorem q206 (fu : Nat) (cf : CF) (a0 : V) (h : H) (n : Id) (k : KV) : evF fu cf e206 [a0] h n k = s206 fu cf a0 h n k := by kernel_rfl
theorem p206 : PfOk Tryz.prog tbx mtab 206 (w1 (s206 fuX)) := pfo e206 Tryz.func206 (by kernel_rfl) (w1_ok (q206 fuX))
noncomputable def s207 (fu : Nat) (cf : CF) (a0 : V) (h : H) (n : Id) (k : KV) : R :=
 evBin2 tbx .neq 9 a0 (.s 0 0) fun v1 =>
 jp (fun (v2 : V) h n =>
 jp (fun (v4 : V) h n =>
 jp (fun (v6 : V) h n =>
 jp (fun (v8 : V) h n =>
 evPick v1 v8 (.b false) fun v10 =>
 k v10 h n) fun kk9 =>
 gdB v1 true ((evBin2 tbx .eql 9 v4 v6 fun v => kk9 v h n)) (kk9 (.tp []) h n)) fun kk7 =>
 gdB v1 true (kk7 a0 h n) (kk7 (.tp []) h n)) fun kk5 =>
 gdB v1 true ((cf 255 [v2] h n kk5)) (kk5 (.tp []) h n)) fun kk3 =>
 gdB v1 true (kk3 a0 h n) (kk3 (.tp []) h n)
noncomputable def e207 : FE := ⟨Tryz.f207, bd Tryz.f207, [0], [2], (.q .z (.q .z .z))⟩
theorem q207 (fu : Nat) (cf : CF) (a0 : V) (h : H) (n : Id) (k : KV) : evF fu cf e207 [a0] h n k = s207 fu cf a0 h n k := by kernel_rfl
theorem p207 : PfOk Tryz.prog tbx mtab 207 (w1 (s207 fuX)) := pfo e207 Tryz.func207 (by kernel_rfl) (w1_ok (q207 fuX))
noncomputable def s208 (fu : Nat) (cf : CF) (a0 : V) (h : H) (n : Id) (k : KV) : R :=
 evMkMap h n fun v1 h n =>
 evLen tbx 160 a0 fun v2 =>
 jp (fun (s3 : VT []) h n =>
 k (.b true) h n) fun kk4 =>
 lpC [3, 7, 8, 9] (fun lo6 s5 h n =>
 pc s5 fun v7 s8 =>
 pc s8 fun v9 s10 =>
 pc s10 fun v11 s12 =>
 pc s12 fun v13 s14 =>
 evBin2 tbx .lss 3 v13 v11 fun v15 =>
 brB v15 (
 jp (fun (s16 : VT [3, 7, 8, 9]) h n =>
 pc s16 fun v18 s19 =>
 pc s19 fun v20 s21 =>
 pc s21 fun v22 s23 =>
 pc s23 fun v24 s25 =>
 evBin2 tbx .add 3 v24 (.i .i64 1) fun v26 =>
 lo6 (v18, v20, v22, v26, ()) h n) fun kk17 =>
 evIa tbx 160 v9 v13 fun v27 =>
 evLoad tbx 303 v27 h fun v28 =>
 evAlloc tbx 303 h n fun v29 h n =>
 evStore tbx 303 v29 v28 h n fun _ h n =>
 evFa tbx 303 0 v29 fun v30 =>
 evLoad tbx 9 v30 h fun v31 =>
 cf 207 [v31] h n fun v32 h n =>
 evUn .not v32 fun v33 =>
 jp (fun (v34 : V) h n =>
 jp (fun (v36 : V) h n =>
 jp (fun (v38 : V) h n =>
 jp (fun (v40 : V) h n =>
 evPick v33 (.b true) v40 fun v42 =>
 jp (fun (v43 : V) h n =>
 jp (fun (v45 : V) h n =>
 jp (fun (v47 : V) h n =>
 jp (fun (v49 : V) h n =>
 evPick v42 (.b true) v49 fun v51 =>
 brB v51 (
 k (.b false) h n) (
 evFa tbx 303 0 v29 fun v52 =>
 evLoad tbx 9 v52 h fun v53 =>
 evMapUpd mtab 227 v7 v53 (.b true) h n fun _ h n =>
 kk17 (v7, v9, v11, v13, ()) h n)) fun kk50 =>
 gdB v42 false ((evUn .not v47 fun v => kk50 v h n)) (kk50 (.tp []) h n)) fun kk48 =>
 gdB v42 false ((cf 206 [v45] h n kk48)) (kk48 (.tp []) h n)) fun kk46 =>
 gdB v42 false ((evLoad tbx 9 v43 h fun v => kk46 v h n)) (kk46 (.tp []) h n)) fun kk44 =>
 gdB v42 false ((evFa tbx 303 1 v29 fun v => kk44 v h n)) (kk44 (.tp []) h n)) fun kk41 =>
 gdB v33 false ((evLook tbx mtab 227 v34 v38 false h fun v => kk41 v h n)) (kk41 (.tp []) h n)) fun kk39 =>
 gdB v33 false ((evLoad tbx 9 v36 h fun v => kk39 v h n)) (kk39 (.tp []) h n)) fun kk37 =>
 gdB v33 false ((evFa tbx 303 0 v29 fun v => kk37 v h n)) (kk37 (.tp []) h n)) fun kk35 =>
 gdB v33 false (kk35 v7 h n) (kk35 (.tp []) h n)) (
 kk4 (()) h n)) fu (v1, a0, v2, (.i .i64 0), ()) h n
noncomputable def e208 : FE := ⟨Tryz.f208, bd Tryz.f208, [0], [2], (.q .z (.q .z (.q (.q .z (.b [] (.l [3, 7, 8, 9] (.q .z (.q (.c .z .z) (.q (.b [3, 7, 8, 9] (.q .z (.q (.q .z (.c (.q .z .z) .z)) .z))) .z)))))) (.q .z .z))))⟩
theorem q208 (fu : Nat) (cf : CF) (a0 : V) (h : H) (n : Id) (k : KV) : evF fu cf e208 [a0] h n k = s208 fu cf a0 h n k := by kernel_rfl
theorem p208 : PfOk Tryz.prog tbx mtab 208 (w1 (s208 fuX)) := pfo e208 Tryz.func208 (by kernel_rfl) (w1_ok (q208 fuX))
noncomputable def s209 (fu : Nat) (cf : CF) (a0 a1 : V) (h : H) (n : Id) (k : KV) : R :=
 evLen tbx 224 a0 fun v1 =>
 jp (fun (s2 : VT []) h n =>
 k (.i .i64 (-1)) h n) fun kk3 =>
 lpC [0, 1, 7, 8] (fun lo5 s4 h n =>
 pc s4 fun v6 s7 =>
 pc s7 fun v8 s9 =>
 pc s9 fun v10 s11 =>
 pc s11 fun v12 s13 =>
 evBin2 tbx .lss 3 v12 v10 fun v14 =>
 brB v14 (
 jp (fun (s15 : VT [0, 1, 7, 8]) h n =>
 pc s15 fun v17 s18 =>
 pc s18 fun v19 s20 =>
 pc s20 fun v21 s22 =>
 pc s22 fun v23 s24 =>
 evBin2 tbx .add 3 v23 (.i .i64 1) fun v25 =>
 lo5 (v17, v19, v21, v25, ()) h n) fun kk16 =>
 evIa tbx 224 v6 v12 fun v26 =>
 evLoad tbx 3 v26 h fun v27 =>
 evBin2 tbx .eql 3 v8 v27 fun v28 =>
 brB v28 (
 k v12 h n) (
 kk16 (v6, v8, v10, v12, ()) h n)) (
 kk3 (()) h n)) fu (a0, a1, v1, (.i .i64 0), ()) h n
noncomputable def e209 : FE := ⟨Tryz.f209, bd Tryz.f209, [0, 1], [4], (.q .z (.q (.q .z (.b [] (.l [0, 1, 7, 8] (.q .z (.q (.c .z .z) (.q (.b [0, 1, 7, 8] (.q .z (.q .z (.c (.q .z .z) .z)))) .z)))))) (.q .z .z)))⟩
theorem q209 (fu : Nat) (cf : CF) (a0 a1 : V) (h : H) (n : Id) (k : KV) : evF fu cf e209 [a0, a1] h n k = s209 fu cf a0 a1 h n k := by kernel_rfl
theorem p209 : PfOk Tryz.prog tbx mtab 209 (w2 (s209 fuX)) := pfo e209 Tryz.func209 (by kernel_rfl) (w2_ok (q209 fuX))
noncomputable def s210 (fu : Nat) (cf : CF) (a0 : V) (h : H) (n : Id) (k : KV) : R :=
 jp (fun (s1 : VT [0]) h n =>
 pc s1 fun v3 s4 =>
 jp (fun (s5 : VT [0]) h n =>
 pc s5 fun v7 s8 =>
 k v7 h n) fun kk6 =>
 lpC [0] (fun lo10 s9 h n =>
 pc s9 fun v11 s12 =>
 evBin2 tbx .neq 9 v11 (.s 0 0) fun v13 =>
 jp (fun (v14 : V) h n =>
 jp (fun (v16 : V) h n =>
 jp (fun (v18 : V) h n =>
 jp (fun (v20 : V) h n =>
 jp (fun (v22 : V) h n =>
 jp (fun (v24 : V) h n =>
 evPick v13 v24 (.b false) fun v26 =>
 brB v26 (
 jp (fun (s27 : VT [0]) h n =>
 pc s27 fun v29 s30 =>
 lo10 (v29, ()) h n) fun kk28 =>
 evLen tbx 9 v11 fun v31 =>
 evBin2 tbx .sub 3 v31 (.i .i64 1) fun v32 =>
 evSlc tbx 9 v11 none (some v32) fun v33 =>
 kk28 (v33, ()) h n) (
 kk6 (v11, ()) h n)) fun kk25 =>
 gdB v13 true ((cf 195 [v22] h n kk25)) (kk25 (.tp []) h n)) fun kk23 =>
 gdB v13 true ((evIx tbx 9 v14 v20 fun v => kk23 v h n)) (kk23 (.tp []) h n)) fun kk21 =>
 gdB v13 true ((evBin2 tbx .sub 3 v18 (.i .i64 1) fun v => kk21 v h n)) (kk21 (.tp []) h n)) fun kk19 =>
 gdB v13 true ((evLen tbx 9 v16 fun v => kk19 v h n)) (kk19 (.tp []) h n)) fun kk17 =>
 gdB v13 true (kk17 v11 h n) (kk17 (.tp []) h n)) fun kk15 =>
 gdB v13 true (kk15 v11 h n) (kk15 (.tp []) h n)) fu (v3, ()) h n) fun kk2 =>
 lpC [0] (fun lo35 s34 h n =>
 pc s34 fun v36 s37 =>
 evBin2 tbx .neq 9 v36 (.s 0 0) fun v38 =>
 jp (fun (v39 : V) h n =>
 jp (fun (v41 : V) h n =>
 jp (fun (v43 : V) h n =>
 evPick v38 v43 (.b false) fun v45 =>
 brB v45 (
 jp (fun (s46 : VT [0]) h n =>
 pc s46 fun v48 s49 =>
 lo35 (v48, ()) h n) fun kk47 =>
 evSlc tbx 9 v36 (some (.i .i64 1)) none fun v50 =>
 kk47 (v50, ()) h n) (
 kk2 (v36, ()) h n)) fun kk44 =>
 gdB v38 true ((cf 195 [v41] h n kk44)) (kk44 (.tp []) h n)) fun kk42 =>
 gdB v38 true ((evIx tbx 9 v39 (.i .i64 0) fun v => kk42 v h n)) (kk42 (.tp []) h n)) fun kk40 =>
 gdB v38 true (kk40 v36 h n) (kk40 (.tp []) h n)) fu (a0, ()) h n
noncomputable def e210 : FE := ⟨Tryz.f210, bd Tryz.f210, [0], [2], (.q .z (.q (.b [0] (.l [0] (.q (.q .z (.c .z .z)) (.b [0] .z)))) (.q (.b [0] (.l [0] (.q (.q .z (.c .z .z)) (.b [0] .z)))) (.q .z .z))))⟩
theorem q210 (fu : Nat) (cf : CF) (a0 : V) (h : H) (n : Id) (k : KV) : evF fu cf e210 [a0] h n k = s210 fu cf a0 h n k := by kernel_rfl
theorem p210 : PfOk Tryz.prog tbx mtab 210 (w1 (s210 fuX)) := pfo e210 Tryz.func210 (by kernel_rfl) (w1_ok (q210 fuX))
noncomputable def s211 (fu : Nat) (cf : CF) (a0 a1 : V) (h : H) (n : Id) (k : KV) : R :=
 evAlloc tbx 314 h n fun v1 h n =>
 cf 256 [a0, a1] h n fun v2 h n =>
 evLen tbx 149 v2 fun v3 =>
 jp (fun (s4 : VT [5]) h n =>
 pc s4 fun v6 s7 =>
 cf 258 [v6] h n fun v8 h n =>
 k v8 h n) fun kk5 =>
 lpC [0, 5, 10, 11, 12] (fun lo10 s9 h n =>
 pc s9 fun v11 s12 =>
 pc s12 fun v13 s14 =>
 pc s14 fun v15 s16 =>
 pc s16 fun v17 s18 =>
 pc s18 fun v19 s20 =>
 evBin2 tbx .lss 3 v19 v17 fun v21 =>
 brB v21 (
 jp (fun (s22 : VT [0, 5, 10, 11, 12]) h n =>
 pc s22 fun v24 s25 =>
 pc s25 fun v26 s27 =>
 pc s27 fun v28 s29 =>
 pc s29 fun v30 s31 =>
 pc s31 fun v32 s33 =>
 evBin2 tbx .add 3 v32 (.i .i64 1) fun v34 =>
 lo10 (v24, v26, v28, v30, v34, ()) h n) fun kk23 =>
 evIa tbx 149 v15 v19 fun v35 =>
 evLoad tbx 3 v35 h fun v36 =>
 evIa tbx 114 v11 v36 fun v37 =>
 evFa tbx 162 1 v37 fun v38 =>
 evLoad tbx 9 v38 h fun v39 =>
 evBin2 tbx .eql 9 v39 (.s 0 0) fun v40 =>
 brB v40 (
 evIa tbx 114 v11 v36 fun v41 =>
 evFa tbx 162 2 v41 fun v42 =>
 evLoad tbx 9 v42 h fun v43 =>
 cf 257 [v13, v43] h n fun v44 h n =>
 kk23 (v11, v13, v15, v17, v19, ()) h n) (
 kk23 (v11, v13, v15, v17, v19, ()) h n)) (
 kk5 (v13, ()) h n)) fu (a0, v1, v2, v3, (.i .i64 0), ()) h n
noncomputable def e211 : FE := ⟨Tryz.f211, bd Tryz.f211, [0, 1], [4], (.q .z (.q .z (.q (.q .z (.b [5] (.l [0, 5, 10, 11, 12] (.q .z (.q (.c .z .z) (.q (.b [0, 5, 10, 11, 12] (.q .z (.q .z (.c .z .z)))) .z)))))) (.q .z .z))))⟩
theorem q211 (fu : Nat) (cf : CF) (a0 a1 : V) (h : H) (n : Id) (k : KV) : evF fu cf e211 [a0, a1] h n k = s211 fu cf a0 a1 h n k := by kernel_rfl
theorem p211 : PfOk Tryz.prog tbx mtab 211 (w2 (s211 fuX)) := pfo e211 Tryz.func211 (by kernel_rfl) (w2_ok (q211 fuX))
noncomputable def s212 (fu : Nat) (cf : CF) (a0 a1 a2 a3 a4 a5 : V) (h : H) (n : Id) (k : KV) : R :=
 evLoad tbx 163 a1 h fun v1 =>
 evNc' v1 fun v2 =>
 evFa tbx 166 0 v2 fun v3 =>
 evLoad tbx 114 v3 h fun v4 =>
 evIa tbx 114 v4 a0 fun v5 =>
 evFa tbx 162 1 v5 fun v6 =>
 evLoad tbx 9 v6 h fun v7 =>
 evLoad tbx 9 a2 h fun v8 =>
 evBin2 tbx .neq 9 v7 v8 fun v9 =>
 evLoad tbx 163 a1 h fun w20 => cond (eqV 6 w20 v1) (
 evLoad tbx 114 v3 h fun w19 => cond (eqV 6 w19 v4) (
 evLoad tbx 9 v6 h fun w18 => cond (eqV 6 w18 v7) (
 evLoad tbx 9 a2 h fun w17 => cond (eqV 6 w17 v8) (
 brB v9 (
 k (.i .i64 0) h n) (
 evLoad tbx 3 a3 h fun v10 =>
 evBin2 tbx .add 3 v10 (.i .i64 1) fun v11 =>
 evStore tbx 3 a3 v11 h n fun _ h n =>
 evLoad tbx 3 a3 h fun v12 =>
 evLoad tbx 3 a4 h fun v13 =>
 evBin2 tbx .gtr 3 v12 v13 fun v14 =>
 brB v14 (
 k (.i .i64 3) h n) (
 evLoad tbx 104 a5 h fun v15 =>
 evCall cf v15 [a0] h n fun v16 h n =>
 k v16 h n))) none) none) none) none
noncomputable def e212 : FE := ⟨Tryz.f212, bd Tryz.f212, [0, 1, 2, 3, 4, 5], [7], (.q .z (.q (.q .z (.c (.q .z .z) .z)) (.q .z (.q (.q .z (.c (.q .z .z) .z)) (.q .z .z)))))⟩
theorem q212 (fu : Nat) (cf : CF) (a0 a1 a2 a3 a4 a5 : V) (h : H) (n : Id) (k : KV) : evF fu cf e212 [a0, a1, a2, a3, a4, a5] h n k = s212 fu cf a0 a1 a2 a3 a4 a5 h n k := by kernel_rfl
theorem p212 : PfOk Tryz.prog tbx mtab 212 (w6 (s212 fuX)) := pfo e212 Tryz.func212 (by kernel_rfl) (w6_ok (q212 fuX))
noncomputable def s213 (fu : Nat) (cf : CF) (a0 a1 a2 : V) (h : H) (n : Id) (k : KV) : R :=
 evLoad tbx 163 a1 h fun v1 =>
 cf 148 [v1, a0] h n fun v2 h n =>
 evExt 0 v2 fun v3 =>
 evExt 1 v2 fun v4 =>
 jp (fun (s5 : VT [2, 5, 6]) h n =>
 pc s5 fun v7 s8 =>
 pc s8 fun v9 s10 =>
 pc s10 fun v11 s12 =>
 evLoad tbx 233 v7 h fun v13 =>
 evBin2 tbx .eql 9 v9 (.s 4 1953658213) fun v14 =>
 evNc' v13 fun v15 =>
 evStore tbx 4 v15 v14 h n fun _ h n =>
 k v11 h n) fun kk6 =>
 evBin2 tbx .eql 33 v4 (.i .i64 0) fun v16 =>
 jp (fun (v17 : V) h n =>
 jp (fun (v19 : V) h n =>
 evPick v16 v19 (.b false) fun v21 =>
 jp (fun (v22 : V) h n =>
 jp (fun (v24 : V) h n =>
 evPick v21 v24 (.b false) fun v26 =>
 jp (fun (v27 : V) h n =>
 jp (fun (v29 : V) h n =>
 evPick v26 v29 (.b false) fun v31 =>
 brB v31 (
 kk6 (a2, v3, (.i .i64 10), ()) h n) (
 kk6 (a2, v3, v4, ()) h n)) fun kk30 =>
 gdB v26 true ((evBin2 tbx .neq 9 v27 (.s 5 439721161573) fun v => kk30 v h n)) (kk30 (.tp []) h n)) fun kk28 =>
 gdB v26 true (kk28 v3 h n) (kk28 (.tp []) h n)) fun kk25 =>
 gdB v21 true ((evBin2 tbx .neq 9 v22 (.s 4 1953658213) fun v => kk25 v h n)) (kk25 (.tp []) h n)) fun kk23 =>
 gdB v21 true (kk23 v3 h n) (kk23 (.tp []) h n)) fun kk20 =>
 gdB v16 true ((evBin2 tbx .neq 9 v17 (.s 0 0) fun v => kk20 v h n)) (kk20 (.tp []) h n)) fun kk18 =>
 gdB v16 true (kk18 v3 h n) (kk18 (.tp []) h n)
noncomputable def e213 : FE := ⟨Tryz.f213, bd Tryz.f213, [0, 1, 2], [4], (.q .z (.q .z (.s [2, 5, 6] (.q .z (.c .z .z)) (.q .z (.q .z .z)))))⟩
theorem q213 (fu : Nat) (cf : CF) (a0 a1 a2 : V) (h : H) (n : Id) (k : KV) : evF fu cf e213 [a0, a1, a2] h n k = s213 fu cf a0 a1 a2 h n k := by kernel_rfl
theorem p213 : PfOk Tryz.prog tbx mtab 213 (w3 (s213 fuX)) := pfo e213 Tryz.func213 (by kernel_rfl) (w3_ok (q213 fuX))
noncomputable def s214 (fu : Nat) (cf : CF) (a0 a1 a2 : V) (h : H) (n : Id) (k : KV) : R :=
 evLoad tbx 163 a1 h fun v1 =>
 let v2 : V := (.fn 215 [a1, a2])
 cf 154 [v1, a0, (.s 9 1871796048003613683566), (.i .i64 50), v2] h n fun v3 h n =>
 k v3 h n
noncomputable def e214 : FE := ⟨Tryz.f214, bd Tryz.f214, [0, 1, 2], [4], (.q .z (.q .z .z))⟩
theorem q214 (fu : Nat) (cf : CF) (a0 a1 a2 : V) (h : H) (n : Id) (k : KV) : evF fu cf e214 [a0, a1, a2] h n k = s214 fu cf a0 a1 a2 h n k := by kernel_rfl
theorem p214 : PfOk Tryz.prog tbx mtab 214 (w3 (s214 fuX)) := pfo e214 Tryz.func214 (by kernel_rfl) (w3_ok (q214 fuX))
noncomputable def s215 (fu : Nat) (cf : CF) (a0 a1 a2 : V) (h : H) (n : Id) (k : KV) : R :=
 evAlloc tbx 63 h n fun v1 h n =>
 evLoad tbx 163 a1 h fun v2 =>
 evLoad tbx 163 a1 h fun v3 =>
 evFa tbx 63 0 v1 fun v4 =>
 evLoad tbx 163 a1 h fun v5 =>
 evFa tbx 63 1 v1 fun v6 =>
 evLoad tbx 163 a1 h fun w38 => cond (eqV 6 w38 v2) (
 evLoad tbx 163 a1 h fun w37 => cond (eqV 6 w37 v3) (
 evLoad tbx 163 a1 h fun w36 => cond (eqV 6 w36 v5) (
 cf 99 [v3, v4] h n fun v7 h n =>
 evLoad tbx 163 a1 h fun w35 => cond (eqV 6 w35 v2) (
 evLoad tbx 163 a1 h fun w34 => cond (eqV 6 w34 v5) (
 cf 99 [v5, v6] h n fun v8 h n =>
 alB n fun n' => litA [((.s 7 29117745638426980), v7), ((.s 10 460180866011107895298404), v8)] fun x mk => 
 (fun (v9 : V) h n =>
 evLoad tbx 163 a1 h fun w33 => cond (eqV 6 w33 v2) (
 ckO (vId v9) h fun id x' => litA [((.s 7 29117745638426980), v7), ((.s 10 460180866011107895298404), v8)] fun x mk => cond (eqO x' x) (cond (eqV 6 (mk id) v9) (
 cf 98 [v2, a0, v9] h n fun v10 h n =>
 evLoad tbx 235 a2 h fun v11 =>
 evLoad tbx 235 a2 h fun v12 =>
 evNc' v12 fun v13 =>
 evLoad tbx 49 v13 h fun v14 =>
 evLoad tbx 63 v1 h fun v15 =>
 evLoad tbx 235 a2 h fun w32 => cond (eqV 6 w32 v11) (
 evLoad tbx 235 a2 h fun w31 => cond (eqV 6 w31 v12) (
 evLoad tbx 49 v13 h fun w30 => cond (eqV 6 w30 v14) (
 evLoad tbx 63 v1 h fun w29 => cond (eqV 6 w29 v15) (
 evBuildSl tbx 49 1 [(0, v15)] h n fun v16 h n =>
 evLoad tbx 235 a2 h fun w28 => cond (eqV 6 w28 v11) (
 evLoad tbx 235 a2 h fun w27 => cond (eqV 6 w27 v12) (
 evLoad tbx 49 v13 h fun w26 => cond (eqV 6 w26 v14) (
 evApp tbx 49 49 v14 v16 h n fun v17 h n =>
 evNc' v11 fun v18 =>
 evLoad tbx 235 a2 h fun w25 => cond (eqV 6 w25 v11) (
 evStore tbx 49 v18 v17 h n fun _ h n =>
 evFa tbx 63 0 v1 fun v19 =>
 evLoad tbx 9 v19 h fun v20 =>
 evFa tbx 63 1 v1 fun v21 =>
 evLoad tbx 9 v21 h fun v22 =>
 evBuildSl tbx 71 2 [(0, v20), (1, v22)] h n fun v23 h n =>
 cf 104 [v10, v23] h n fun v24 h n =>
 k v24 h n) none) none) none) none) none) none) none) none) none) none) none) (mk n) (hset x n h) n') none) none) none) none) none
noncomputable def e215 : FE := ⟨Tryz.f215, bd Tryz.f215, [0, 1, 2], [4], (.q .z (.q .z (.q .z (.q .z (.q .z .z)))))⟩
theorem q215 (fu : Nat) (cf : CF) (a0 a1 a2 : V) (h : H) (n : Id) (k : KV) : evF fu cf e215 [a0, a1, a2] h n k = s215 fu cf a0 a1 a2 h n k := by kernel_rfl
theorem p215 : PfOk Tryz.prog tbx mtab 215 (w3 (s215 fuX)) := pfo e215 Tryz.func215 (by kernel_rfl) (w3_ok (q215 fuX))
noncomputable def s223 (fu : Nat) (cf : CF) (a0 a1 : V) (h : H) (n : Id) (k : KV) : R :=
 evLen tbx 9 a0 fun v1 =>
 evLen tbx 9 a1 fun v2 =>
 evBin2 tbx .geq 3 v1 v2 fun v3 =>
 jp (fun (v4 : V) h n =>
 jp (fun (v6 : V) h n =>
 jp (fun (v8 : V) h n =>
 jp (fun (v10 : V) h n =>
 jp (fun (v12 : V) h n =>
 jp (fun (v14 : V) h n =>
 evPick v3 v14 (.b false) fun v16 =>
 k v16 h n) fun kk15 =>
 gdB v3 true ((evBin2 tbx .eql 9 v10 v12 fun v => kk15 v h n)) (kk15 (.tp []) h n)) fun kk13 =>
 gdB v3 true (kk13 a1 h n) (kk13 (.tp []) h n)) fun kk11 =>
 gdB v3 true ((evSlc tbx 9 v4 none (some v8) fun v => kk11 v h n)) (kk11 (.tp []) h n)) fun kk9 =>
 gdB v3 true ((evLen tbx 9 v6 fun v => kk9 v h n)) (kk9 (.tp []) h n)) fun kk7 =>
 gdB v3 true (kk7 a1 h n) (kk7 (.tp []) h n)) fun kk5 =>
 gdB v3 true (kk5 a0 h n) (kk5 (.tp []) h n)
noncomputable def e223 : FE := ⟨Tryz.f223, bd Tryz.f223, [0, 1], [4], (.q .z (.q .z .z))⟩
theorem q223 (fu : Nat) (cf : CF) (a0 a1 : V) (h : H) (n : Id) (k : KV) : evF fu cf e223 [a0, a1] h n k = s223 fu cf a0 a1 h n k := by kernel_rfl
theorem p223 : PfOk Tryz.prog tbx mtab 223 (w2 (s223 fuX)) := pfo e223 Tryz.func223 (by kernel_rfl) (w2_ok (q223 fuX))
noncomputable def s225 (fu : Nat) (cf : CF) (a0 a1 : V) (h : H) (n : Id) (k : KV) : R :=
 cf 271 [a0, a1] h n fun v1 h n =>
 evExt 0 v1 fun v2 =>
 evExt 1 v1 fun v3 =>
 evExt 2 v1 fun v4 =>
 k (.tp [v2, v3, v4]) h n
noncomputable def e225 : FE := ⟨Tryz.f225, bd Tryz.f225, [0, 1], [4, 5, 6], (.q .z (.q .z .z))⟩
theorem q225 (fu : Nat) (cf : CF) (a0 a1 : V) (h : H) (n : Id) (k : KV) : evF fu cf e225 [a0, a1] h n k = s225 fu cf a0 a1 h n k := by kernel_rfl
theorem p225 : PfOk Tryz.prog tbx mtab 225 (w2 (s225 fuX)) := pfo e225 Tryz.func225 (by kernel_rfl) (w2_ok (q225 fuX))
noncomputable def s228 (fu : Nat) (cf : CF) (a0 a1 : V) (h : H) (n : Id) (k : KV) : R :=
 cf 223 [a0, a1] h n fun v1 h n =>
 evUn .not v1 fun v2 =>
 brB v2 (
 k (.tp [a0, (.b false)]) h n) (
 evLen tbx 9 a1 fun v3 =>
 evSlc tbx 9 a0 (some v3) none fun v4 =>
 k (.tp [v4, (.b true)]) h n)
noncomputable def e228 : FE := ⟨Tryz.f228, bd Tryz.f228, [0, 1], [4, 5], (.q .z (.q (.q .z (.c (.q .z .z) .z)) (.q .z .z)))⟩
theorem q228 (fu : Nat) (cf : CF) (a0 a1 : V) (h : H) (n : Id) (k : KV) : evF fu cf e228 [a0, a1] h n k = s228 fu cf a0 a1 h n k := by kernel_rfl
theorem p228 : PfOk Tryz.prog tbx mtab 228 (w2 (s228 fuX)) := pfo e228 Tryz.func228 (by kernel_rfl) (w2_ok (q228 fuX))
noncomputable def s236 (fu : Nat) (cf : CF) (a0 : V) (h : H) (n : Id) (k : KV) : R :=
 evBin2 tbx .neq 3 a0 a0 fun v1 =>
 k v1 h n
noncomputable def e236 : FE := ⟨Tryz.f236, bd Tryz.f236, [0], [2], (.q .z (.q .z .z))⟩
theorem q236 (fu : Nat) (cf : CF) (a0 : V) (h : H) (n : Id) (k : KV) : evF fu cf e236 [a0] h n k = s236 fu cf a0 h n k := by kernel_rfl
theorem p236 : PfOk Tryz.prog tbx mtab 236 (w1 (s236 fuX)) := pfo e236 Tryz.func236 (by kernel_rfl) (w1_ok (q236 fuX))
noncomputable def s237 (fu : Nat) (cf : CF) (a0 a1 : V) (h : H) (n : Id) (k : KV) : R :=
 jp (fun (s1 : VT [0]) h n =>
 pc s1 fun v3 s4 =>
 k v3 h n) fun kk2 =>
 lpC [0, 1] (fun lo6 s5 h n =>
 pc s5 fun v7 s8 =>
 pc s8 fun v9 s10 =>
 evLen tbx 9 v7 fun v11 =>
 evBin2 tbx .gtr 3 v11 (.i .i64 0) fun v12 =>
 jp (fun (v13 : V) h n =>
 jp (fun (v15 : V) h n =>
 jp (fun (v17 : V) h n =>
 jp (fun (v19 : V) h n =>
 evPick v12 v19 (.b false) fun v21 =>
 brB v21 (
 jp (fun (s22 : VT [0, 1]) h n =>
 pc s22 fun v24 s25 =>
 pc s25 fun v26 s27 =>
 lo6 (v24, v26, ()) h n) fun kk23 =>
 evSlc tbx 9 v7 (some (.i .i64 1)) none fun v28 =>
 kk23 (v28, v9, ()) h n) (
 kk2 (v7, ()) h n)) fun kk20 =>
 gdB v12 true ((evBin2 tbx .eql 5 v15 v17 fun v => kk20 v h n)) (kk20 (.tp []) h n)) fun kk18 =>
 gdB v12 true (kk18 v9 h n) (kk18 (.tp []) h n)) fun kk16 =>
 gdB v12 true ((evIx tbx 9 v13 (.i .i64 0) fun v => kk16 v h n)) (kk16 (.tp []) h n)) fun kk14 =>
 gdB v12 true (kk14 v7 h n) (kk14 (.tp []) h n)) fu (a0, a1, ()) h n
noncomputable def e237 : FE := ⟨Tryz.f237, bd Tryz.f237, [0, 1], [4], (.q .z (.q (.b [0] (.l [0, 1] (.q (.q .z (.c .z .z)) (.b [0, 1] .z)))) (.q .z .z)))⟩
theorem q237 (fu : Nat) (cf : CF) (a0 a1 : V) (h : H) (n : Id) (k : KV) : evF fu cf e237 [a0, a1] h n k = s237 fu cf a0 a1 h n k := by kernel_rfl
theorem p237 : PfOk Tryz.prog tbx mtab 237 (w2 (s237 fuX)) := pfo e237 Tryz.func237 (by kernel_rfl) (w2_ok (q237 fuX))
noncomputable def s238 (fu : Nat) (cf : CF) (a0 : V) (h : H) (n : Id) (k : KV) : R :=
 evAlloc tbx 293 h n fun v1 h n =>
 jp (fun (s2 : VT [2]) h n =>
 pc s2 fun v4 s5 =>
 evLoad tbx 293 v4 h fun v6 =>
 evStore tbx 293 v4 v6 h n fun _ h n =>
 evLoad tbx 293 v4 h fun v7 =>
 k (.tp [v7, (.b true)]) h n) fun kk3 =>
 lpC [0, 2, 4] (fun lo9 s8 h n =>
 pc s8 fun v10 s11 =>
 pc s11 fun v12 s13 =>
 pc s13 fun v14 s15 =>
 evLen tbx 9 v10 fun v16 =>
 evBin2 tbx .lss 3 v14 v16 fun v17 =>
 brB v17 (
 jp (fun (s18 : VT [0, 2, 4]) h n =>
 pc s18 fun v20 s21 =>
 pc s21 fun v22 s23 =>
 pc s23 fun v24 s25 =>
 evBin2 tbx .add 3 v24 (.i .i64 1) fun v26 =>
 lo9 (v20, v22, v26, ()) h n) fun kk19 =>
 evIx tbx 9 v10 v14 fun v27 =>
 evBin2 tbx .geq 5 v27 (.i .u8 128) fun v28 =>
 brB v28 (
 evLoad tbx 293 v12 h fun v29 =>
 evStore tbx 293 v12 v29 h n fun _ h n =>
 evLoad tbx 293 v12 h fun v30 =>
 k (.tp [v30, (.b false)]) h n) (
 evIa tbx 293 v12 v27 fun v31 =>
 evStore tbx 4 v31 (.b true) h n fun _ h n =>
 kk19 (v10, v12, v14, ()) h n)) (
 kk3 (v12, ()) h n)) fu (a0, v1, (.i .i64 0), ()) h n
noncomputable def e238 : FE := ⟨Tryz.f238, bd Tryz.f238, [0], [2, 3], (.q .z (.q (.q .z (.b [2] (.l [0, 2, 4] (.q (.q .z (.c .z .z)) (.q (.b [0, 2, 4] (.q .z (.q (.q .z (.c (.q .z .z) .z)) .z))) .z))))) (.q .z .z)))⟩
theorem q238 (fu : Nat) (cf : CF) (a0 : V) (h : H) (n : Id) (k : KV) : evF fu cf e238 [a0] h n k = s238 fu cf a0 h n k := by kernel_rfl
theorem p238 : PfOk Tryz.prog tbx mtab 238 (w1 (s238 fuX)) := pfo e238 Tryz.func238 (by kernel_rfl) (w1_ok (q238 fuX))
noncomputable def s244 (fu : Nat) (cf : CF) (a0 a1 : V) (h : H) (n : Id) (k : KV) : R :=
 evBox a1 h n fun v1 h n =>
 evNc' a0 fun v2 =>
 evFa tbx 214 1 v2 fun v3 =>
 evLoad tbx 155 v3 h fun v4 =>
 evLoad tbx 222 v1 h fun v5 =>
 evLoad tbx 155 v3 h fun w12 => cond (eqV 6 w12 v4) (
 evLoad tbx 222 v1 h fun w11 => cond (eqV 6 w11 v5) (
 evBuildSl tbx 155 1 [(0, v5)] h n fun v6 h n =>
 evLoad tbx 155 v3 h fun w10 => cond (eqV 6 w10 v4) (
 evApp tbx 155 155 v4 v6 h n fun v7 h n =>
 evNc' a0 fun v8 =>
 evFa tbx 214 1 v8 fun v9 =>
 evStore tbx 155 v9 v7 h n fun _ h n =>
 k (.b true) h n) none) none) none
noncomputable def e244 : FE := ⟨Tryz.f244, bd Tryz.f244, [0, 1], [4], (.q .z (.q .z (.q .z .z)))⟩
theorem q244 (fu : Nat) (cf : CF) (a0 a1 : V) (h : H) (n : Id) (k : KV) : evF fu cf e244 [a0, a1] h n k = s244 fu cf a0 a1 h n k := by kernel_rfl
theorem p244 : PfOk Tryz.prog tbx mtab 244 (w2 (s244 fuX)) := pfo e244 Tryz.func244 (by kernel_rfl) (w2_ok (q244 fuX))
noncomputable def s245 (fu : Nat) (cf : CF) (a0 : V) (h : H) (n : Id) (k : KV) : R :=
 evNc' a0 fun v1 =>
 evFa tbx 214 0 v1 fun v2 =>
 evLoad tbx 9 v2 h fun v3 =>
 cf 255 [v3] h n fun v4 h n =>
 evNc' a0 fun v5 =>
 evFa tbx 214 0 v5 fun v6 =>
 evLoad tbx 9 v6 h fun v7 =>
 evLen tbx 9 v4 fun v8 =>
 evSlc tbx 9 v7 (some v8) none fun v9 =>
 evNc' a0 fun v10 =>
 evFa tbx 214 0 v10 fun v11 =>
 evStore tbx 9 v11 v9 h n fun _ h n =>
 k v4 h n
noncomputable def e245 : FE := ⟨Tryz.f245, bd Tryz.f245, [0], [2], (.q .z (.q .z (.q .z (.q .z .z))))⟩
theorem q245 (fu : Nat) (cf : CF) (a0 : V) (h : H) (n : Id) (k : KV) : evF fu cf e245 [a0] h n k = s245 fu cf a0 h n k := by kernel_rfl
theorem p245 : PfOk Tryz.prog tbx mtab 245 (w1 (s245 fuX)) := pfo e245 Tryz.func245 (by kernel_rfl) (w1_ok (q245 fuX))
noncomputable def s246 (fu : Nat) (cf : CF) (a0 : V) (h : H) (n : Id) (k : KV) : R :=
 jp (fun (s1 : VT [0, 3]) h n =>
 pc s1 fun v3 s4 =>
 pc s4 fun v5 s6 =>
 evNc' v3 fun v7 =>
 evFa tbx 214 0 v7 fun v8 =>
 evLoad tbx 9 v8 h fun v9 =>
 evSlc tbx 9 v9 (some v5) none fun v10 =>
 evNc' v3 fun v11 =>
 evFa tbx 214 0 v11 fun v12 =>
 evStore tbx 9 v12 v10 h n fun _ h n =>
 evBin2 tbx .gtr 3 v5 (.i .i64 0) fun v13 =>
 k v13 h n) fun kk2 =>
 lpC [0, 3] (fun lo15 s14 h n =>
 pc s14 fun v16 s17 =>
 pc s17 fun v18 s19 =>
 evNc' v16 fun v20 =>
 evFa tbx 214 0 v20 fun v21 =>
 evLoad tbx 9 v21 h fun v22 =>
 evLen tbx 9 v22 fun v23 =>
 evBin2 tbx .lss 3 v18 v23 fun v24 =>
 jp (fun (v25 : V) h n =>
 jp (fun (v27 : V) h n =>
 jp (fun (v29 : V) h n =>
 jp (fun (v31 : V) h n =>
 jp (fun (v33 : V) h n =>
 jp (fun (v35 : V) h n =>
 jp (fun (v37 : V) h n =>
 evPick v24 v37 (.b false) fun v39 =>
 brB v39 (
 jp (fun (s40 : VT [0, 3]) h n =>
 pc s40 fun v42 s43 =>
 pc s43 fun v44 s45 =>
 lo15 (v42, v44, ()) h n) fun kk41 =>
 evBin2 tbx .add 3 v18 (.i .i64 1) fun v46 =>
 kk41 (v16, v46, ()) h n) (
 kk2 (v16, v18, ()) h n)) fun kk38 =>
 gdB v24 true ((cf 195 [v35] h n kk38)) (kk38 (.tp []) h n)) fun kk36 =>
 gdB v24 true ((evIx tbx 9 v31 v33 fun v => kk36 v h n)) (kk36 (.tp []) h n)) fun kk34 =>
 gdB v24 true (kk34 v18 h n) (kk34 (.tp []) h n)) fun kk32 =>
 gdB v24 true ((evLoad tbx 9 v29 h fun v => kk32 v h n)) (kk32 (.tp []) h n)) fun kk30 =>
 gdB v24 true ((evFa tbx 214 0 v27 fun v => kk30 v h n)) (kk30 (.tp []) h n)) fun kk28 =>
 gdB v24 true ((evNc' v25 fun v => kk28 v h n)) (kk28 (.tp []) h n)) fun kk26 =>
 gdB v24 true (kk26 v16 h n) (kk26 (.tp []) h n)) fu (a0, (.i .i64 0), ()) h n
noncomputable def e246 : FE := ⟨Tryz.f246, bd Tryz.f246, [0], [2], (.q .z (.q .z (.q (.b [0, 3] (.l [0, 3] (.q (.q .z (.c .z .z)) (.b [0, 3] .z)))) (.q .z (.q .z .z)))))⟩
theorem q246 (fu : Nat) (cf : CF) (a0 : V) (h : H) (n : Id) (k : KV) : evF fu cf e246 [a0] h n k = s246 fu cf a0 h n k := by kernel_rfl
theorem p246 : PfOk Tryz.prog tbx mtab 246 (w1 (s246 fuX)) := pfo e246 Tryz.func246 (by kernel_rfl) (w1_ok (q246 fuX))
noncomputable def s248 (fu : Nat) (cf : CF) (a0 a1 : V) (h : H) (n : Id) (k : KV) : R :=
 cf 289 [a0, a1] h n fun v1 h n =>
 evBin2 tbx .geq 3 v1 (.i .i64 0) fun v2 =>
 k v2 h n
noncomputable def e248 : FE := ⟨Tryz.f248, bd Tryz.f248, [0, 1], [4], (.q .z (.q .z .z))⟩
theorem q248 (fu : Nat) (cf : CF) (a0 a1 : V) (h : H) (n : Id) (k : KV) : evF fu cf e248 [a0, a1] h n k = s248 fu cf a0 a1 h n k := by kernel_rfl
theorem p248 : PfOk Tryz.prog tbx mtab 248 (w2 (s248 fuX)) := pfo e248 Tryz.func248 (by kernel_rfl) (w2_ok (q248 fuX))
noncomputable def s249 (fu : Nat) (cf : CF) (a0 a1 : V) (h : H) (n : Id) (k : KV) : R :=
 evBox a0 h n fun v1 h n =>
 evFa tbx 303 0 v1 fun v2 =>
 evLoad tbx 9 v2 h fun v3 =>
 evFa tbx 303 0 a1 fun v4 =>
 evLoad tbx 9 v4 h fun v5 =>
 evBin2 tbx .eql 9 v3 v5 fun v6 =>
 k v6 h n
noncomputable def e249 : FE := ⟨Tryz.f249, bd Tryz.f249, [0, 1], [3], (.q .z (.q .z .z))⟩
theorem q249 (fu : Nat) (cf : CF) (a0 a1 : V) (h : H) (n : Id) (k : KV) : evF fu cf e249 [a0, a1] h n k = s249 fu cf a0 a1 h n k := by kernel_rfl
theorem p249 : PfOk Tryz.prog tbx mtab 249 (w2 (s249 fuX)) := pfo e249 Tryz.func249 (by kernel_rfl) (w2_ok (q249 fuX))
noncomputable def s250 (fu : Nat) (cf : CF) (a0 : V) (h : H) (n : Id) (k : KV) : R :=
 evAlloc tbx 314 h n fun v1 h n =>
 jp (fun (s2 : VT [2, 3]) h n =>
 pc s2 fun v4 s5 =>
 pc s5 fun v6 s7 =>
 k (.tp [v4, v6]) h n) fun kk3 =>
 lpC [0, 4] (fun lo9 s8 h n =>
 pc s8 fun v10 s11 =>
 pc s11 fun v12 s13 =>
 jp (fun (s14 : VT [0, 4]) h n =>
 pc s14 fun v16 s17 =>
 pc s17 fun v18 s19 =>
 lo9 (v16, v18, ()) h n) fun kk15 =>
 cf 225 [v10, (.s 1 38)] h n fun v20 h n =>
 evExt 0 v20 fun v21 =>
 evExt 1 v20 fun v22 =>
 evExt 2 v20 fun v23 =>
 cf 257 [v12, v21] h n fun v24 h n =>
 evUn .not v23 fun v25 =>
 brB v25 (
 cf 258 [v12] h n fun v26 h n =>
 k (.tp [v26, (.i .i64 0)]) h n) (
 cf 225 [v22, (.s 1 59)] h n fun v27 h n =>
 evExt 0 v27 fun v28 =>
 evExt 1 v27 fun v29 =>
 evExt 2 v27 fun v30 =>
 cf 290 [v28] h n fun v31 h n =>
 evExt 0 v31 fun v32 =>
 evExt 1 v31 fun v33 =>
 evUn .not v30 fun v34 =>
 jp (fun (v35 : V) h n =>
 jp (fun (v37 : V) h n =>
 evPick v34 (.b true) v37 fun v39 =>
 brB v39 (
 k (.tp [(.s 0 0), (.i .i64 5)]) h n) (
 cf 257 [v12, v32] h n fun v40 h n =>
 kk15 (v29, v12, ()) h n)) fun kk38 =>
 gdB v34 false ((evUn .not v35 fun v => kk38 v h n)) (kk38 (.tp []) h n)) fun kk36 =>
 gdB v34 false (kk36 v33 h n) (kk36 (.tp []) h n))) fu (a0, v1, ()) h n
noncomputable def e250 : FE := ⟨Tryz.f250, bd Tryz.f250, [0], [2, 3], (.q .z (.q .z (.b [2, 3] (.l [0, 4] (.b [0, 4] (.q .z (.q .z (.q (.q .z (.c (.q .z .z) .z)) (.q .z (.q .z (.q (.q .z (.c (.q .z .z) .z)) (.q .z .z))))))))))))⟩
theorem q250 (fu : Nat) (cf : CF) (a0 : V) (h : H) (n : Id) (k : KV) : evF fu cf e250 [a0] h n k = s250 fu cf a0 h n k := by kernel_rfl
theorem p250 : PfOk Tryz.prog tbx mtab 250 (w1 (s250 fuX)) := pfo e250 Tryz.func250 (by kernel_rfl) (w1_ok (q250 fuX))
noncomputable def s251 (fu : Nat) (cf : CF) (a0 a1 : V) (h : H) (n : Id) (k : KV) : R :=
 evBox a1 h n fun v1 h n =>
 evNc' a0 fun v2 =>
 evFa tbx 219 0 v2 fun v3 =>
 evLoad tbx 114 v3 h fun v4 =>
 evLen tbx 114 v4 fun v5 =>
 evBin2 tbx .geq 3 v5 (.i .i64 2000) fun v6 =>
 brB v6 (
 k (.i .i64 3) h n) (
 cf 253 [a0] h n fun v7 h n =>
 evFa tbx 162 0 v1 fun v8 =>
 evStore tbx 3 v8 v7 h n fun _ h n =>
 evNc' a0 fun v9 =>
 evFa tbx 219 2 v9 fun v10 =>
 evLoad tbx 217 v10 h fun v11 =>
 evFa tbx 162 0 v1 fun v12 =>
 evLoad tbx 3 v12 h fun v13 =>
 evNc' a0 fun v14 =>
 evFa tbx 219 0 v14 fun v15 =>
 evLoad tbx 114 v15 h fun v16 =>
 evLen tbx 114 v16 fun v17 =>
 evLoad tbx 217 v10 h fun w31 => cond (eqV 6 w31 v11) (
 evLoad tbx 3 v12 h fun w30 => cond (eqV 6 w30 v13) (
 evLoad tbx 114 v15 h fun w29 => cond (eqV 6 w29 v16) (
 evMapUpd mtab 217 v11 v13 v17 h n fun _ h n =>
 evNc' a0 fun v18 =>
 evFa tbx 219 0 v18 fun v19 =>
 evLoad tbx 114 v19 h fun v20 =>
 evLoad tbx 162 v1 h fun v21 =>
 evLoad tbx 114 v19 h fun w28 => cond (eqV 6 w28 v20) (
 evLoad tbx 162 v1 h fun w27 => cond (eqV 6 w27 v21) (
 evBuildSl tbx 114 1 [(0, v21)] h n fun v22 h n =>
 evLoad tbx 114 v19 h fun w26 => cond (eqV 6 w26 v20) (
 evApp tbx 114 114 v20 v22 h n fun v23 h n =>
 evNc' a0 fun v24 =>
 evFa tbx 219 0 v24 fun v25 =>
 evStore tbx 114 v25 v23 h n fun _ h n =>
 k (.i .i64 0) h n) none) none) none) none) none) none)
noncomputable def e251 : FE := ⟨Tryz.f251, bd Tryz.f251, [0, 1], [4], (.q .z (.q (.q .z (.c (.q .z .z) .z)) (.q .z (.q .z (.q .z (.q .z .z))))))⟩
theorem q251 (fu : Nat) (cf : CF) (a0 a1 : V) (h : H) (n : Id) (k : KV) : evF fu cf e251 [a0, a1] h n k = s251 fu cf a0 a1 h n k := by kernel_rfl
theorem p251 : PfOk Tryz.prog tbx mtab 251 (w2 (s251 fuX)) := pfo e251 Tryz.func251 (by kernel_rfl) (w2_ok (q251 fuX))
noncomputable def s252 (fu : Nat) (cf : CF) (a0 : V) (h : H) (n : Id) (k : KV) : R :=
 evBin2 tbx .eql 160 a0 .ns fun v1 =>
 brB v1 (
 k .ns h n) (
 evBuildSl tbx 160 0 [] h n fun v2 h n =>
 evApp tbx 160 160 v2 a0 h n fun v3 h n =>
 k v3 h n)
noncomputable def e252 : FE := ⟨Tryz.f252, bd Tryz.f252, [0], [2], (.q .z (.q (.q .z (.c (.q .z .z) .z)) (.q .z .z)))⟩
theorem q252 (fu : Nat) (cf : CF) (a0 : V) (h : H) (n : Id) (k : KV) : evF fu cf e252 [a0] h n k = s252 fu cf a0 h n k := by kernel_rfl
theorem p252 : PfOk Tryz.prog tbx mtab 252 (w1 (s252 fuX)) := pfo e252 Tryz.func252 (by kernel_rfl) (w1_ok (q252 fuX))
noncomputable def s253 (fu : Nat) (cf : CF) (a0 : V) (h : H) (n : Id) (k : KV) : R :=
 evNc' a0 fun v1 =>
 evFa tbx 219 1 v1 fun v2 =>
 evLoad tbx 149 v2 h fun v3 =>
 evLen tbx 149 v3 fun v4 =>
 evBin2 tbx .eql 3 v4 (.i .i64 0) fun v5 =>
 brB v5 (
 k (.i .i64 (-1)) h n) (
 evNc' a0 fun v6 =>
 evFa tbx 219 1 v6 fun v7 =>
 evLoad tbx 149 v7 h fun v8 =>
 evNc' a0 fun v9 =>
 evFa tbx 219 1 v9 fun v10 =>
 evLoad tbx 149 v10 h fun v11 =>
 evLen tbx 149 v11 fun v12 =>
 evBin2 tbx .sub 3 v12 (.i .i64 1) fun v13 =>
 evIa tbx 149 v8 v13 fun v14 =>
 evLoad tbx 3 v14 h fun v15 =>
 evLoad tbx 149 v7 h fun w18 => cond (eqV 6 w18 v8) (
 evLoad tbx 149 v10 h fun w17 => cond (eqV 6 w17 v11) (
 evLoad tbx 3 v14 h fun w16 => cond (eqV 6 w16 v15) (
 k v15 h n) none) none) none)
noncomputable def e253 : FE := ⟨Tryz.f253, bd Tryz.f253, [0], [2], (.q .z (.q (.q .z (.c (.q .z .z) .z)) (.q .z .z)))⟩
theorem q253 (fu : Nat) (cf : CF) (a0 : V) (h : H) (n : Id) (k : KV) : evF fu cf e253 [a0] h n k = s253 fu cf a0 h n k := by kernel_rfl
theorem p253 : PfOk Tryz.prog tbx mtab 253 (w1 (s253 fuX)) := pfo e253 Tryz.func253 (by kernel_rfl) (w1_ok (q253 fuX))
noncomputable def s254 (fu : Nat) (cf : CF) (a0 : V) (h : H) (n : Id) (k : KV) : R :=
 cf 140 [a0] h n fun v1 h n =>
 evUn .not v1 fun v2 =>
 k v2 h n
noncomputable def e254 : FE := ⟨Tryz.f254, bd Tryz.f254, [0], [2], (.q .z (.q .z .z))⟩
theorem q254 (fu : Nat) (cf : CF) (a0 : V) (h : H) (n : Id) (k : KV) : evF fu cf e254 [a0] h n k = s254 fu cf a0 h n k := by kernel_rfl
theorem p254 : PfOk Tryz.prog tbx mtab 254 (w1 (s254 fuX)) := pfo e254 Tryz.func254 (by kernel_rfl) (w1_ok (q254 fuX))
noncomputable def s255 (fu : Nat) (cf : CF) (a0 : V) (h : H) (n : Id) (k : KV) : R :=
 jp (fun (s3 : VT [2]) h n =>
 pc s3 fun v6 s7 =>
 k v6 h n) fun kk1 =>
 jp (lpC [0, 3] (fun lo5 s4 h n =>
 pc s4 fun v8 s9 =>
 pc s9 fun v10 s11 =>
 evLen tbx 9 v8 fun v12 =>
 evBin2 tbx .lss 3 v10 v12 fun v13 =>
 jp (fun (v14 : V) h n =>
 jp (fun (v16 : V) h n =>
 jp (fun (v18 : V) h n =>
 jp (fun (v20 : V) h n =>
 evPick v13 v20 (.b false) fun v22 =>
 brB v22 (
 evBin2 tbx .add 3 v10 (.i .i64 1) fun v23 =>
 lo5 (v8, v23, ()) h n) (
 evSlc tbx 9 v8 none (some v10) fun v24 =>
 k v24 h n)) fun kk21 =>
 gdB v13 true ((cf 292 [v18] h n kk21)) (kk21 (.tp []) h n)) fun kk19 =>
 gdB v13 true ((evIx tbx 9 v14 v16 fun v => kk19 v h n)) (kk19 (.tp []) h n)) fun kk17 =>
 gdB v13 true (kk17 v10 h n) (kk17 (.tp []) h n)) fun kk15 =>
 gdB v13 true (kk15 v8 h n) (kk15 (.tp []) h n)) fu) fun lo2 =>
 evBin2 tbx .eql 9 a0 (.s 0 0) fun v25 =>
 jp (fun (v26 : V) h n =>
 jp (fun (v28 : V) h n =>
 jp (fun (v30 : V) h n =>
 jp (fun (v32 : V) h n =>
 evPick v25 (.b true) v32 fun v34 =>
 brB v34 (
 k (.s 0 0) h n) (
 evLen tbx 9 a0 fun v35 =>
 evBin2 tbx .lss 3 (.i .i64 1) v35 fun v36 =>
 jp (fun (v37 : V) h n =>
 jp (fun (v39 : V) h n =>
 jp (fun (v41 : V) h n =>
 jp (fun (v43 : V) h n =>
 evPick v36 v43 (.b false) fun v45 =>
 brB v45 (
 evBin2 tbx .add 3 (.i .i64 1) (.i .i64 1) fun v46 =>
 lo2 (a0, v46, ()) h n) (
 evSlc tbx 9 a0 none (some (.i .i64 1)) fun v47 =>
 k v47 h n)) fun kk44 =>
 gdB v36 true ((cf 292 [v41] h n kk44)) (kk44 (.tp []) h n)) fun kk42 =>
 gdB v36 true ((evIx tbx 9 v37 v39 fun v => kk42 v h n)) (kk42 (.tp []) h n)) fun kk40 =>
 gdB v36 true (kk40 (.i .i64 1) h n) (kk40 (.tp []) h n)) fun kk38 =>
 gdB v36 true (kk38 a0 h n) (kk38 (.tp []) h n))) fun kk33 =>
 gdB v25 false ((evUn .not v30 fun v => kk33 v h n)) (kk33 (.tp []) h n)) fun kk31 =>
 gdB v25 false ((cf 291 [v28] h n kk31)) (kk31 (.tp []) h n)) fun kk29 =>
 gdB v25 false ((evIx tbx 9 v26 (.i .i64 0) fun v => kk29 v h n)) (kk29 (.tp []) h n)) fun kk27 =>
 gdB v25 false (kk27 a0 h n) (kk27 (.tp []) h n)
noncomputable def e255 : FE := ⟨Tryz.f255, bd Tryz.f255, [0], [2], (.q .z (.g 0 [0, 3] [2] (.q (.q .z (.c (.q .z .z) .z)) (.q .z (.q .z (.q (.q .z (.c (.q .z .z) .z)) (.q .z .z))))) (.q .z (.q (.q .z (.c (.q .z .z) .z)) (.q .z .z)))))⟩
theorem q255 (fu : Nat) (cf : CF) (a0 : V) (h : H) (n : Id) (k : KV) : evF fu cf e255 [a0] h n k = s255 fu cf a0 h n k := by kernel_rfl
theorem p255 : PfOk Tryz.prog tbx mtab 255 (w1 (s255 fuX)) := pfo e255 Tryz.func255 (by kernel_rfl) (w1_ok (q255 fuX))
noncomputable def s256 (fu : Nat) (cf : CF) (a0 a1 : V) (h : H) (n : Id) (k : KV) : R :=
 evLen tbx 114 a0 fun v1 =>
 jp (fun (s2 : VT [5]) h n =>
 pc s2 fun v4 s5 =>
 k v4 h n) fun kk3 =>
 lpC [0, 1, 5, 8, 9, 10] (fun lo7 s6 h n =>
 pc s6 fun v8 s9 =>
 pc s9 fun v10 s11 =>
 pc s11 fun v12 s13 =>
 pc s13 fun v14 s15 =>
 pc s15 fun v16 s17 =>
 pc s17 fun v18 s19 =>
 evBin2 tbx .lss 3 v18 v16 fun v20 =>
 brB v20 (
 jp (fun (s21 : VT [0, 1, 5, 8, 9, 10]) h n =>
 pc s21 fun v23 s24 =>
 pc s24 fun v25 s26 =>
 pc s26 fun v27 s28 =>
 pc s28 fun v29 s30 =>
 pc s30 fun v31 s32 =>
 pc s32 fun v33 s34 =>
 evBin2 tbx .add 3 v33 (.i .i64 1) fun v35 =>
 lo7 (v23, v25, v27, v29, v31, v35, ()) h n) fun kk22 =>
 evIa tbx 114 v14 v18 fun v36 =>
 evLoad tbx 162 v36 h fun v37 =>
 evAlloc tbx 162 h n fun v38 h n =>
 evStore tbx 162 v38 v37 h n fun _ h n =>
 evFa tbx 162 0 v38 fun v39 =>
 evLoad tbx 3 v39 h fun v40 =>
 evBin2 tbx .eql 3 v40 v10 fun v41 =>
 jp (fun (v42 : V) h n =>
 jp (fun (v44 : V) h n =>
 evPick v41 v44 (.b false) fun v46 =>
 jp (fun (v47 : V) h n =>
 jp (fun (v49 : V) h n =>
 jp (fun (v51 : V) h n =>
 jp (fun (v53 : V) h n =>
 evPick v46 v53 (.b false) fun v55 =>
 brB v55 (
 evBuildSl tbx 149 1 [(0, v18)] h n fun v56 h n =>
 evApp tbx 149 149 v12 v56 h n fun v57 h n =>
 kk22 (v8, v10, v57, v14, v16, v18, ()) h n) (
 kk22 (v8, v10, v12, v14, v16, v18, ()) h n)) fun kk54 =>
 gdB v46 true ((evBin2 tbx .lss 3 v47 v51 fun v => kk54 v h n)) (kk54 (.tp []) h n)) fun kk52 =>
 gdB v46 true ((evLen tbx 114 v49 fun v => kk52 v h n)) (kk52 (.tp []) h n)) fun kk50 =>
 gdB v46 true (kk50 v8 h n) (kk50 (.tp []) h n)) fun kk48 =>
 gdB v46 true (kk48 v10 h n) (kk48 (.tp []) h n)) fun kk45 =>
 gdB v41 true ((evBin2 tbx .geq 3 v42 (.i .i64 0) fun v => kk45 v h n)) (kk45 (.tp []) h n)) fun kk43 =>
 gdB v41 true (kk43 v10 h n) (kk43 (.tp []) h n)) (
 kk3 (v12, ()) h n)) fu (a0, a1, .ns, a0, v1, (.i .i64 0), ()) h n
noncomputable def e256 : FE := ⟨Tryz.f256, bd Tryz.f256, [0, 1], [4], (.q .z (.q .z (.q (.q .z (.b [5] (.l [0, 1, 5, 8, 9, 10] (.q .z (.q (.c .z .z) (.q (.b [0, 1, 5, 8, 9, 10] (.q .z (.q .z (.c .z .z)))) .z)))))) (.q .z .z))))⟩
theorem q256 (fu : Nat) (cf : CF) (a0 a1 : V) (h : H) (n : Id) (k : KV) : evF fu cf e256 [a0, a1] h n k = s256 fu cf a0 a1 h n k := by kernel_rfl
theorem p256 : PfOk Tryz.prog tbx mtab 256 (w2 (s256 fuX)) := pfo e256 Tryz.func256 (by kernel_rfl) (w2_ok (q256 fuX))
noncomputable def s257 (fu : Nat) (cf : CF) (a0 a1 : V) (h : H) (n : Id) (k : KV) : R :=
 cf 293 [a0] h n fun v1 h n =>
 evNc' a0 fun v2 =>
 evFa tbx 314 1 v2 fun v3 =>
 evLoad tbx 73 v3 h fun v4 =>
 evApp tbx 73 9 v4 a1 h n fun v5 h n =>
 evNc' a0 fun v6 =>
 evFa tbx 314 1 v6 fun v7 =>
 evStore tbx 73 v7 v5 h n fun _ h n =>
 evLen tbx 9 a1 fun v8 =>
 k (.tp [v8, .j]) h n
noncomputable def e257 : FE := ⟨Tryz.f257, bd Tryz.f257, [0, 1], [4, 5], (.q .z (.q .z (.q .z (.q .z .z))))⟩
theorem q257 (fu : Nat) (cf : CF) (a0 a1 : V) (h : H) (n : Id) (k : KV) : evF fu cf e257 [a0, a1] h n k = s257 fu cf a0 a1 h n k := by kernel_rfl
theorem p257 : PfOk Tryz.prog tbx mtab 257 (w2 (s257 fuX)) := pfo e257 Tryz.func257 (by kernel_rfl) (w2_ok (q257 fuX))
noncomputable def s258 (fu : Nat) (cf : CF) (a0 : V) (h : H) (n : Id) (k : KV) : R :=
 evNc' a0 fun v1 =>
 evFa tbx 314 1 v1 fun v2 =>
 evLoad tbx 73 v2 h fun v3 =>
 evSld v3 fun v4 =>
 evNc' a0 fun v5 =>
 evFa tbx 314 1 v5 fun v6 =>
 evLoad tbx 73 v6 h fun v7 =>
 evLen tbx 73 v7 fun v8 =>
 evLoad tbx 73 v2 h fun w11 => cond (eqV 6 w11 v3) (
 evLoad tbx 73 v6 h fun w10 => cond (eqV 6 w10 v7) (
 evUst mtab 352 v4 v8 h n fun v9 h n =>
 k v9 h n) none) none
noncomputable def e258 : FE := ⟨Tryz.f258, bd Tryz.f258, [0], [2], (.q .z (.q .z .z))⟩
theorem q258 (fu : Nat) (cf : CF) (a0 : V) (h : H) (n : Id) (k : KV) : evF fu cf e258 [a0] h n k = s258 fu cf a0 h n k := by kernel_rfl
theorem p258 : PfOk Tryz.prog tbx mtab 258 (w1 (s258 fuX)) := pfo e258 Tryz.func258 (by kernel_rfl) (w1_ok (q258 fuX))
end Go.Proofs.Nw.X
end
