/- Bundle 14: NwXI5, NwFShelf, NwXIE, NwXI. -/
import Derived.Test.YtbooikopklijdaaGreatDoorNwG13
import Derived.Shelf.Small.Utf8
import Derived.Shelf.Small.Strs
import Derived.Shelf.Strings.Search1
import Derived.Shelf.Strings.Search2
import Derived.Shelf.Strings.Search3
import Derived.Shelf.Strings.Cut
import Derived.Shelf.LaysM
import Derived.Shelf.Strings.Shaped
import Derived.Shelf.Strings.Runes
import Derived.Shelf.Strings.IndexAny
import Derived.Shelf.Strings.AsciiSet
import Derived.Shelf.Strings.IndexAnyAll
import Derived.Shelf.Unicode.DecodeSlow
import Derived.Test.YtbooikopklijdaaGreatDoorProg
set_option linter.constructorNameAsVariable false
set_option linter.unusedVariables false
set_option linter.unusedSimpArgs false
set_option linter.unusedSectionVars false
section
/- printed by xg.py: seat F's functions, 5. -/
open Go Go.RowKit Go.Proofs
set_option maxRecDepth 100000
namespace Go.Proofs.Nw.X
open Go.Proofs.Nw.K
noncomputable def s262 (fu : Nat) (cf : CF) (a0 a1 : V) (h : H) (n : Id) (k : KV) : R :=
 evLen tbx 29 a0 fun v1 =>
 jp (fun (s2 : VT []) h n =>
 k (.i .i64 (-1)) h n) fun kk3 =>
 lpC [0, 1, 7, 8] (fun lo5 s4 h n => pc s4 fun v6 s7 => pc s7 fun v8 s9 => pc s9 fun v10 s11 => pc s11 fun v12 s13 => evBin2 tbx .lss 3 v12 v10 fun v14 =>
 brB v14 (
 jp (fun (s15 : VT [0, 1, 7, 8]) h n => pc s15 fun v17 s18 => pc s18 fun v19 s20 => pc s20 fun v21 s22 => pc s22 fun v23 s24 => evBin2 tbx .add 3 v23 (.i .i64 1) fun v25 =>
 lo5 (v17, v19, v21, v25, ()) h n) fun kk16 => evIa tbx 29 v6 v12 fun v26 => evLoad tbx 57 v26 h fun v27 =>
 evCall cf v8 [v27] h n fun v28 h n =>
 brB v28 (
 k v12 h n) (
 kk16 (v6, v8, v10, v12, ()) h n)) (
 kk3 (()) h n)) fu (a0, a1, v1, (.i .i64 0), ()) h n
noncomputable def e262 : FE := ⟨Tryz.f262, bd Tryz.f262, [0, 1], [4], (.q .z (.q (.q .z (.b [] (.l [0, 1, 7, 8] (.q .z (.q (.c .z .z) (.q (.b [0, 1, 7, 8] (.q .z (.q .z (.c (.q .z .z) .z)))) .z)))))) (.q .z .z)))⟩
theorem q262 (fu : Nat) (cf : CF) (a0 a1 : V) (h : H) (n : Id) (k : KV) : evF fu cf e262 [a0, a1] h n k = s262 fu cf a0 a1 h n k := by kernel_rfl
theorem p262 : PfOk Tryz.prog tbx mtab 262 (w2 (s262 fuX)) := pfo e262 Tryz.func262 (by kernel_rfl) (w2_ok (q262 fuX))
noncomputable def s263 (fu : Nat) (cf : CF) (a0 : V) (h : H) (n : Id) (k : KV) : R :=
 jp (fun (s3 : VT [2, 3]) h n => pc s3 fun v6 s7 => pc s7 fun v8 s9 =>
 k (.tp [v6, v8]) h n) fun kk1 =>
 jp (lpC [0, 4] (fun lo5 s4 h n => pc s4 fun v10 s11 => pc s11 fun v12 s13 =>
 cf 225 [v10, (.s 2 9339)] h n fun v14 h n => evExt 0 v14 fun v15 => evExt 1 v14 fun v16 => evExt 2 v14 fun v17 =>
 jp (fun (s18 : VT [4, 6, 7]) h n => pc s18 fun v20 s21 => pc s21 fun v22 s23 => pc s23 fun v24 s25 =>
 evUn .not v24 fun v26 =>
 brB v26 (
 k (.tp [v20, (.i .i64 0)]) h n) (
 cf 225 [v22, (.s 1 125)] h n fun v27 h n => evExt 0 v27 fun v28 => evExt 1 v27 fun v29 => evExt 2 v27 fun v30 =>
 evUn .not v30 fun v31 =>
 jp (fun (v32 : V) h n =>
 jp (fun (v34 : V) h n => evPick v31 (.b true) v34 fun v36 =>
 jp (fun (v37 : V) h n =>
 jp (fun (v39 : V) h n => evPick v36 (.b true) v39 fun v41 =>
 brB v41 (
 k (.tp [.ns, (.i .i64 17)]) h n) (
 evBuild tbx 334 [(0, (.b true)), (1, v28)] fun v42 =>
 evBuildSl tbx 323 1 [(0, v42)] h n fun v43 h n =>
 evApp tbx 323 323 v20 v43 h n fun v44 h n =>
 lo5 (v29, v44, ()) h n)) fun kk40 =>
 gdB v36 false ((cf 295 [v37, (.s 2 9339)] h n kk40)) (kk40 (.tp []) h n)) fun kk38 =>
 gdB v36 false (kk38 v28 h n) (kk38 (.tp []) h n)) fun kk35 =>
 gdB v31 false ((evBin2 tbx .eql 9 v32 (.s 0 0) fun v => kk35 v h n)) (kk35 (.tp []) h n)) fun kk33 =>
 gdB v31 false (kk33 v28 h n) (kk33 (.tp []) h n))) fun kk19 => evBin2 tbx .neq 9 v15 (.s 0 0) fun v45 =>
 brB v45 (
 evBuild tbx 334 [(1, v15)] fun v46 =>
 evBuildSl tbx 323 1 [(0, v46)] h n fun v47 h n =>
 evApp tbx 323 323 v12 v47 h n fun v48 h n =>
 kk19 (v48, v16, v17, ()) h n) (
 kk19 (v12, v16, v17, ()) h n)) fu) fun lo2 =>
 cf 225 [a0, (.s 2 9339)] h n fun v49 h n => evExt 0 v49 fun v50 => evExt 1 v49 fun v51 => evExt 2 v49 fun v52 =>
 jp (fun (s53 : VT [4, 6, 7]) h n => pc s53 fun v55 s56 => pc s56 fun v57 s58 => pc s58 fun v59 s60 =>
 evUn .not v59 fun v61 =>
 brB v61 (
 k (.tp [v55, (.i .i64 0)]) h n) (
 cf 225 [v57, (.s 1 125)] h n fun v62 h n => evExt 0 v62 fun v63 => evExt 1 v62 fun v64 => evExt 2 v62 fun v65 =>
 evUn .not v65 fun v66 =>
 jp (fun (v67 : V) h n =>
 jp (fun (v69 : V) h n => evPick v66 (.b true) v69 fun v71 =>
 jp (fun (v72 : V) h n =>
 jp (fun (v74 : V) h n => evPick v71 (.b true) v74 fun v76 =>
 brB v76 (
 k (.tp [.ns, (.i .i64 17)]) h n) (
 evBuild tbx 334 [(0, (.b true)), (1, v63)] fun v77 =>
 evBuildSl tbx 323 1 [(0, v77)] h n fun v78 h n =>
 evApp tbx 323 323 v55 v78 h n fun v79 h n =>
 lo2 (v64, v79, ()) h n)) fun kk75 =>
 gdB v71 false ((cf 295 [v72, (.s 2 9339)] h n kk75)) (kk75 (.tp []) h n)) fun kk73 =>
 gdB v71 false (kk73 v63 h n) (kk73 (.tp []) h n)) fun kk70 =>
 gdB v66 false ((evBin2 tbx .eql 9 v67 (.s 0 0) fun v => kk70 v h n)) (kk70 (.tp []) h n)) fun kk68 =>
 gdB v66 false (kk68 v63 h n) (kk68 (.tp []) h n))) fun kk54 => evBin2 tbx .neq 9 v50 (.s 0 0) fun v80 =>
 brB v80 (
 evBuild tbx 334 [(1, v50)] fun v81 =>
 evBuildSl tbx 323 1 [(0, v81)] h n fun v82 h n =>
 evApp tbx 323 323 .ns v82 h n fun v83 h n =>
 kk54 (v83, v51, v52, ()) h n) (
 kk54 (.ns, v51, v52, ()) h n)
noncomputable def e263 : FE := ⟨Tryz.f263, bd Tryz.f263, [0], [2, 3], (.q .z (.g 0 [0, 4] [2, 3] (.q .z (.q .z (.q .z (.s [4, 6, 7] (.q .z (.c .z .z)) (.q (.q .z (.c (.q .z .z) .z)) (.q .z (.q (.q .z (.c (.q .z .z) .z)) (.q .z (.q .z .z))))))))) (.q .z (.q .z (.s [4, 6, 7] (.q .z (.c .z .z)) (.q (.q .z (.c (.q .z .z) .z)) (.q .z (.q (.q .z (.c (.q .z .z) .z)) (.q .z (.q .z .z))))))))))⟩
theorem q263 (fu : Nat) (cf : CF) (a0 : V) (h : H) (n : Id) (k : KV) : evF fu cf e263 [a0] h n k = s263 fu cf a0 h n k := by kernel_rfl
theorem p263 : PfOk Tryz.prog tbx mtab 263 (w1 (s263 fuX)) := pfo e263 Tryz.func263 (by kernel_rfl) (w1_ok (q263 fuX))
noncomputable def s264 (fu : Nat) (cf : CF) (a0 : V) (h : H) (n : Id) (k : KV) : R :=
 cf 296 [a0, (.s 0 0)] h n fun v1 h n =>
 cf 210 [v1] h n fun v2 h n =>
 jp (fun (s3 : VT [4]) h n => pc s3 fun v5 s6 =>
 k (.tp [v5, (.i .i64 0)]) h n) fun kk4 =>
 evLen tbx 9 v2 fun v7 => evBin2 tbx .gtr 3 v7 (.i .i64 500) fun v8 =>
 brB v8 (
 k (.tp [(.s 0 0), (.i .i64 3)]) h n) (
 cf 297 [v2] h n fun v9 h n =>
 brB v9 (
 k (.tp [(.s 0 0), (.i .i64 17)]) h n) (
 kk4 (v2, ()) h n))
noncomputable def e264 : FE := ⟨Tryz.f264, bd Tryz.f264, [0], [2, 3], (.q .z (.q .z (.q (.b [4] (.q .z (.c (.q .z .z) (.q .z (.c (.q .z .z) .z))))) (.q .z .z))))⟩
theorem q264 (fu : Nat) (cf : CF) (a0 : V) (h : H) (n : Id) (k : KV) : evF fu cf e264 [a0] h n k = s264 fu cf a0 h n k := by kernel_rfl
theorem p264 : PfOk Tryz.prog tbx mtab 264 (w1 (s264 fuX)) := pfo e264 Tryz.func264 (by kernel_rfl) (w1_ok (q264 fuX))
noncomputable def s265 (fu : Nat) (cf : CF) (a0 a1 : V) (h : H) (n : Id) (k : KV) : R :=
 cf 298 [a0, a1] h n fun v1 h n => evBin2 tbx .geq 3 v1 (.i .i64 0) fun v2 =>
 k v2 h n
noncomputable def e265 : FE := ⟨Tryz.f265, bd Tryz.f265, [0, 1], [4], (.q .z (.q .z .z))⟩
theorem q265 (fu : Nat) (cf : CF) (a0 a1 : V) (h : H) (n : Id) (k : KV) : evF fu cf e265 [a0, a1] h n k = s265 fu cf a0 a1 h n k := by kernel_rfl
theorem p265 : PfOk Tryz.prog tbx mtab 265 (w2 (s265 fuX)) := pfo e265 Tryz.func265 (by kernel_rfl) (w2_ok (q265 fuX))
noncomputable def s266 (fu : Nat) (cf : CF) (a0 a1 : V) (h : H) (n : Id) (k : KV) : R :=
 evBox a0 h n fun v1 h n => evFa tbx 327 1 v1 fun v2 => evLoad tbx 4 v2 h fun v3 =>
 jp (fun (v4 : V) h n =>
 jp (fun (v6 : V) h n =>
 jp (fun (v8 : V) h n =>
 jp (fun (v10 : V) h n =>
 jp (fun (v12 : V) h n => evPick v3 v12 (.b false) fun v14 =>
 k v14 h n) fun kk13 =>
 gdB v3 true ((evBin2 tbx .eql 9 v6 v10 fun v => kk13 v h n)) (kk13 (.tp []) h n)) fun kk11 =>
 gdB v3 true ((evLoad tbx 9 v8 h fun v => kk11 v h n)) (kk11 (.tp []) h n)) fun kk9 =>
 gdB v3 true ((evFa tbx 334 1 a1 fun v => kk9 v h n)) (kk9 (.tp []) h n)) fun kk7 =>
 gdB v3 true ((evLoad tbx 9 v4 h fun v => kk7 v h n)) (kk7 (.tp []) h n)) fun kk5 =>
 gdB v3 true ((evFa tbx 327 0 v1 fun v => kk5 v h n)) (kk5 (.tp []) h n)
noncomputable def e266 : FE := ⟨Tryz.f266, bd Tryz.f266, [0, 1], [3], (.q .z (.q .z .z))⟩
theorem q266 (fu : Nat) (cf : CF) (a0 a1 : V) (h : H) (n : Id) (k : KV) : evF fu cf e266 [a0, a1] h n k = s266 fu cf a0 a1 h n k := by kernel_rfl
theorem p266 : PfOk Tryz.prog tbx mtab 266 (w2 (s266 fuX)) := pfo e266 Tryz.func266 (by kernel_rfl) (w2_ok (q266 fuX))
noncomputable def s267 (fu : Nat) (cf : CF) (a0 a1 : V) (h : H) (n : Id) (k : KV) : R :=
 evBox a0 h n fun v1 h n =>
 evAlloc tbx 51 h n fun v2 h n => evFa tbx 51 3 v1 fun v3 => evLoad tbx 9 v3 h fun v4 =>
 evBuildSl tbx 71 2 [(0, v4), (1, (.s 3 6971762))] h n fun v5 h n =>
 cf 42 [v5] h n fun v6 h n => evFa tbx 51 3 v1 fun v7 =>
 evStore tbx 9 v7 v6 h n fun _ h n => evFa tbx 51 7 v1 fun v8 => evLoad tbx 49 v8 h fun v9 =>
 cf 113 [v9] h n fun v10 h n => evFa tbx 51 7 v1 fun v11 =>
 evStore tbx 49 v11 v10 h n fun _ h n =>
 jp (fun (s12 : VT [1, 2, 4]) h n => pc s12 fun v14 s15 => pc s15 fun v16 s17 => pc s17 fun v18 s19 => evLoad tbx 51 v16 h fun v20 =>
 cf 302 [v20, v14] h n fun v21 h n => evBin2 tbx .neq 33 v21 (.i .i64 0) fun v22 =>
 brB v22 (
 evBuild tbx 51 [] fun v23 =>
 evStore tbx 51 v18 v23 h n fun _ h n => evLoad tbx 51 v18 h fun v24 =>
 k (.tp [v24, v21]) h n) ( evLoad tbx 51 v16 h fun v25 =>
 evStore tbx 51 v18 v25 h n fun _ h n => evLoad tbx 51 v18 h fun v26 =>
 k (.tp [v26, (.i .i64 0)]) h n)) fun kk13 => evFa tbx 51 0 v1 fun v27 => evLoad tbx 9 v27 h fun v28 =>
 cf 58 [v28] h n fun v29 h n =>
 evUn .not v29 fun v30 =>
 jp (fun (v31 : V) h n =>
 jp (fun (v33 : V) h n =>
 jp (fun (v35 : V) h n =>
 jp (fun (v37 : V) h n => evPick v30 (.b true) v37 fun v39 =>
 jp (fun (v40 : V) h n =>
 jp (fun (v42 : V) h n =>
 jp (fun (v44 : V) h n =>
 jp (fun (v46 : V) h n => evPick v39 (.b true) v46 fun v48 =>
 jp (fun (v49 : V) h n =>
 jp (fun (v51 : V) h n =>
 jp (fun (v53 : V) h n =>
 jp (fun (v55 : V) h n =>
 jp (fun (v57 : V) h n =>
 jp (fun (v59 : V) h n =>
 jp (fun (v61 : V) h n =>
 jp (fun (v63 : V) h n =>
 jp (fun (v65 : V) h n => evPick v48 (.b true) v65 fun v67 =>
 brB v67 (
 evBuild tbx 51 [] fun v68 =>
 evStore tbx 51 v2 v68 h n fun _ h n => evLoad tbx 51 v2 h fun v69 =>
 k (.tp [v69, (.i .i64 10)]) h n) ( evLoad tbx 51 v1 h fun v70 =>
 cf 299 [v70, a1] h n fun v71 h n =>
 evUn .not v71 fun v72 =>
 brB v72 (
 evBuild tbx 51 [] fun v73 =>
 evStore tbx 51 v2 v73 h n fun _ h n => evLoad tbx 51 v2 h fun v74 =>
 k (.tp [v74, (.i .i64 19)]) h n) ( evFa tbx 51 7 v1 fun v75 => evLoad tbx 49 v75 h fun v76 =>
 cf 180 [v76, (.fn 300 [])] h n fun v77 h n =>
 brB v77 (
 evBuild tbx 51 [] fun v78 =>
 evStore tbx 51 v2 v78 h n fun _ h n => evLoad tbx 51 v2 h fun v79 =>
 k (.tp [v79, (.i .i64 10)]) h n) (
 kk13 (a1, v1, v2, ()) h n)))) fun kk66 =>
 gdB v48 false ((evPick v55 v63 (.b false) fun v => kk66 v h n)) (kk66 (.tp []) h n)) fun kk64 =>
 gdB v55 true ((evUn .not v61 fun v => kk64 v h n)) (kk64 (.tp []) h n)) fun kk62 =>
 gdB v55 true ((cf 58 [v59] h n kk62)) (kk62 (.tp []) h n)) fun kk60 =>
 gdB v55 true ((evLoad tbx 9 v57 h fun v => kk60 v h n)) (kk60 (.tp []) h n)) fun kk58 =>
 gdB v55 true ((evFa tbx 51 4 v1 fun v => kk58 v h n)) (kk58 (.tp []) h n)) fun kk56 =>
 gdB v48 false (kk56 v53 h n) (kk56 (.tp []) h n)) fun kk54 =>
 gdB v48 false ((evBin2 tbx .neq 9 v51 (.s 0 0) fun v => kk54 v h n)) (kk54 (.tp []) h n)) fun kk52 =>
 gdB v48 false ((evLoad tbx 9 v49 h fun v => kk52 v h n)) (kk52 (.tp []) h n)) fun kk50 =>
 gdB v48 false ((evFa tbx 51 4 v1 fun v => kk50 v h n)) (kk50 (.tp []) h n)) fun kk47 =>
 gdB v39 false ((evUn .not v44 fun v => kk47 v h n)) (kk47 (.tp []) h n)) fun kk45 =>
 gdB v39 false ((cf 58 [v42] h n kk45)) (kk45 (.tp []) h n)) fun kk43 =>
 gdB v39 false ((evLoad tbx 9 v40 h fun v => kk43 v h n)) (kk43 (.tp []) h n)) fun kk41 =>
 gdB v39 false ((evFa tbx 51 3 v1 fun v => kk41 v h n)) (kk41 (.tp []) h n)) fun kk38 =>
 gdB v30 false ((evUn .not v35 fun v => kk38 v h n)) (kk38 (.tp []) h n)) fun kk36 =>
 gdB v30 false ((cf 58 [v33] h n kk36)) (kk36 (.tp []) h n)) fun kk34 =>
 gdB v30 false ((evLoad tbx 9 v31 h fun v => kk34 v h n)) (kk34 (.tp []) h n)) fun kk32 =>
 gdB v30 false ((evFa tbx 51 1 v1 fun v => kk32 v h n)) (kk32 (.tp []) h n)
noncomputable def e267 : FE := ⟨Tryz.f267, bd Tryz.f267, [0, 1], [4, 5], (.q .z (.q .z (.q .z (.q (.b [1, 2, 4] (.q .z (.c (.q .z .z) (.q .z (.c (.q .z .z) (.q .z (.c (.q .z .z) .z))))))) (.q (.q .z (.q .z (.c (.q .z .z) .z))) (.q .z .z))))))⟩
theorem q267 (fu : Nat) (cf : CF) (a0 a1 : V) (h : H) (n : Id) (k : KV) : evF fu cf e267 [a0, a1] h n k = s267 fu cf a0 a1 h n k := by kernel_rfl
theorem p267 : PfOk Tryz.prog tbx mtab 267 (w2 (s267 fuX)) := pfo e267 Tryz.func267 (by kernel_rfl) (w2_ok (q267 fuX))
noncomputable def s268 (fu : Nat) (cf : CF) (a0 a1 : V) (h : H) (n : Id) (k : KV) : R :=
 jp (fun (s1 : VT [4]) h n => pc s1 fun v3 s4 =>
 k v3 h n) fun kk2 => evBin2 tbx .leq 21 (.i .i32 0) a1 fun v5 =>
 jp (fun (v6 : V) h n =>
 jp (fun (v8 : V) h n => evPick v5 v8 (.b false) fun v10 =>
 brB v10 (
 evConv2 tbx mtab 21 5 a1 h n fun v11 h n =>
 cf 93 [a0, v11] h n fun v12 h n =>
 k v12 h n) ( evBin2 tbx .eql 21 a1 (.i .i32 65533) fun v13 =>
 brB v13 (
 none) (
 cf 303 [a1] h n fun v14 h n =>
 evUn .not v14 fun v15 =>
 brB v15 (
 k (.i .i64 (-1)) h n) (
 jp (fun (s18 : VT [4]) h n => pc s18 fun v21 s22 =>
 kk2 (v21, ()) h n) fun kk16 =>
 jp (lpC [0, 1, 7, 8, 9] (fun lo20 s19 h n => pc s19 fun v23 s24 => pc s24 fun v25 s26 => pc s26 fun v27 s28 => pc s28 fun v29 s30 => pc s30 fun v31 s32 =>
 jp (fun (s33 : VT []) h n =>
 k (.i .i64 (-1)) h n) fun kk34 =>
 brB (.b true) ( evBin2 tbx .sub 3 v31 v29 fun v35 =>
 evSlc tbx 9 v23 (some v35) none fun v36 =>
 evConv2 tbx mtab 21 9 v25 h n fun v37 h n =>
 cf 192 [v36, v37] h n fun v38 h n => evBin2 tbx .geq 3 v38 (.i .i64 0) fun v39 =>
 brB v39 ( evBin2 tbx .add 3 v31 v38 fun v40 => evBin2 tbx .sub 3 v40 v29 fun v41 =>
 k v41 h n) (
 kk34 (()) h n)) (
 evIx tbx 9 v27 v29 fun v42 => evBin2 tbx .sub 3 v29 (.i .i64 1) fun v43 =>
 evIx tbx 9 v27 v43 fun v44 =>
 jp (fun (s45 : VT []) h n =>
 kk34 (()) h n) fun kk46 =>
 lpC [0, 7, 8, 9, 14, 15] (fun lo48 s47 h n => pc s47 fun v49 s50 => pc s50 fun v51 s52 => pc s52 fun v53 s54 => pc s54 fun v55 s56 => pc s56 fun v57 s58 => pc s58 fun v59 s60 =>
 evLen tbx 9 v49 fun v61 => evBin2 tbx .lss 3 v55 v61 fun v62 =>
 brB v62 (
 jp (fun (s63 : VT [0, 7, 8, 9, 14, 15]) h n => pc s63 fun v65 s66 => pc s66 fun v67 s68 => pc s68 fun v69 s70 => pc s70 fun v71 s72 => pc s72 fun v73 s74 => pc s74 fun v75 s76 => evBin2 tbx .add 3 v71 (.i .i64 1) fun v77 =>
 lo48 (v65, v67, v69, v77, v73, v75, ()) h n) fun kk64 =>
 evIx tbx 9 v49 v55 fun v78 => evBin2 tbx .eql 5 v78 v57 fun v79 =>
 jp (fun (v80 : V) h n =>
 jp (fun (v82 : V) h n =>
 jp (fun (v84 : V) h n =>
 jp (fun (v86 : V) h n =>
 jp (fun (v88 : V) h n =>
 jp (fun (v90 : V) h n => evPick v79 v90 (.b false) fun v92 =>
 brB v92 (
 jp (fun (s93 : VT [8, 9]) h n => pc s93 fun v95 s96 => pc s96 fun v97 s98 => evBin2 tbx .sub 3 v97 v95 fun v99 =>
 k v99 h n) fun kk94 =>
 lpC [0, 7, 8, 9, 14, 15, 16] (fun lo101 s100 h n => pc s100 fun v102 s103 => pc s103 fun v104 s105 => pc s105 fun v106 s107 => pc s107 fun v108 s109 => pc s109 fun v110 s111 => pc s111 fun v112 s113 => pc s113 fun v114 s115 =>
 evLen tbx 9 v104 fun v116 => evBin2 tbx .lss 3 v114 v116 fun v117 =>
 brB v117 (
 jp (fun (s118 : VT [0, 7, 8, 9, 14, 15, 16]) h n => pc s118 fun v120 s121 => pc s121 fun v122 s123 => pc s123 fun v124 s125 => pc s125 fun v126 s127 => pc s127 fun v128 s129 => pc s129 fun v130 s131 => pc s131 fun v132 s133 => evBin2 tbx .add 3 v132 (.i .i64 1) fun v134 =>
 lo101 (v120, v122, v124, v126, v128, v130, v134, ()) h n) fun kk119 => evBin2 tbx .sub 3 v108 v114 fun v135 =>
 evIx tbx 9 v102 v135 fun v136 => evBin2 tbx .sub 3 v106 v114 fun v137 =>
 evIx tbx 9 v104 v137 fun v138 => evBin2 tbx .neq 5 v136 v138 fun v139 =>
 brB v139 (
 kk64 (v102, v104, v106, v108, v110, v112, ()) h n) (
 kk119 (v102, v104, v106, v108, v110, v112, v114, ()) h n)) (
 kk94 (v106, v108, ()) h n)) fu (v49, v51, v53, v55, v57, v59, (.i .i64 2), ()) h n) (
 kk64 (v49, v51, v53, v55, v57, v59, ()) h n)) fun kk91 =>
 gdB v79 true ((evBin2 tbx .eql 5 v86 v88 fun v => kk91 v h n)) (kk91 (.tp []) h n)) fun kk89 =>
 gdB v79 true (kk89 v59 h n) (kk89 (.tp []) h n)) fun kk87 =>
 gdB v79 true ((evIx tbx 9 v80 v84 fun v => kk87 v h n)) (kk87 (.tp []) h n)) fun kk85 =>
 gdB v79 true ((evBin2 tbx .sub 3 v82 (.i .i64 1) fun v => kk85 v h n)) (kk85 (.tp []) h n)) fun kk83 =>
 gdB v79 true (kk83 v55 h n) (kk83 (.tp []) h n)) fun kk81 =>
 gdB v79 true (kk81 v49 h n) (kk81 (.tp []) h n)) (
 kk46 (()) h n)) fu (v23, v27, v29, v31, v42, v44, ()) h n)) fu) fun lo17 =>
 evConv2 tbx mtab 21 9 a1 h n fun v140 h n =>
 evLen tbx 9 v140 fun v141 => evBin2 tbx .sub 3 v141 (.i .i64 1) fun v142 =>
 jp (fun (s143 : VT []) h n =>
 k (.i .i64 (-1)) h n) fun kk144 =>
 lpC [0, 1, 7, 8, 9, 10] (fun lo146 s145 h n => pc s145 fun v147 s148 => pc s148 fun v149 s150 => pc s150 fun v151 s152 => pc s152 fun v153 s154 => pc s154 fun v155 s156 => pc s156 fun v157 s158 =>
 evLen tbx 9 v147 fun v159 => evBin2 tbx .lss 3 v155 v159 fun v160 =>
 brB v160 (
 jp (fun (s161 : VT [0, 1, 7, 8, 9, 10]) h n => pc s161 fun v163 s164 => pc s164 fun v165 s166 => pc s166 fun v167 s168 => pc s168 fun v169 s170 => pc s170 fun v171 s172 => pc s172 fun v173 s174 =>
 lo146 (v163, v165, v167, v169, v171, v173, ()) h n) fun kk162 =>
 jp (fun (s177 : VT [0, 1, 7, 8, 9, 10]) h n => pc s177 fun v180 s181 => pc s181 fun v182 s183 => pc s183 fun v184 s185 => pc s185 fun v186 s187 => pc s187 fun v188 s189 => pc s189 fun v190 s191 =>
 kk162 (v180, v182, v184, v186, v188, v190, ()) h n) fun kk175 =>
 jp (lpC [0, 1, 7, 8, 9, 10] (fun lo179 s178 h n => pc s178 fun v192 s193 => pc s193 fun v194 s195 => pc s195 fun v196 s197 => pc s197 fun v198 s199 => pc s199 fun v200 s201 => pc s201 fun v202 s203 => evBin2 tbx .add 3 v202 (.i .i64 1) fun v204 => evBin2 tbx .add 3 v200 (.i .i64 1) fun v205 =>
 jp (fun (v206 : V) h n =>
 jp (fun (v208 : V) h n =>
 jp (fun (v210 : V) h n =>
 jp (fun (v212 : V) h n => evPick (.b true) v212 (.b false) fun v214 =>
 jp (fun (v215 : V) h n =>
 jp (fun (v217 : V) h n =>
 jp (fun (v219 : V) h n =>
 jp (fun (v221 : V) h n => evPick v214 v221 (.b false) fun v223 =>
 jp (fun (v224 : V) h n =>
 jp (fun (v226 : V) h n =>
 jp (fun (v228 : V) h n =>
 jp (fun (v230 : V) h n =>
 jp (fun (v232 : V) h n =>
 jp (fun (v234 : V) h n =>
 jp (fun (v236 : V) h n =>
 jp (fun (v238 : V) h n =>
 jp (fun (v240 : V) h n =>
 jp (fun (v242 : V) h n =>
 jp (fun (v244 : V) h n =>
 jp (fun (v246 : V) h n =>
 jp (fun (v248 : V) h n => evPick v223 (.b true) v248 fun v250 =>
 brB v250 (
 none) (
 kk175 (v192, v194, v196, v198, v205, v204, ()) h n)) fun kk249 =>
 gdB v223 false ((evPick v238 v246 (.b false) fun v => kk249 v h n)) (kk249 (.tp []) h n)) fun kk247 =>
 gdB v238 true ((evBin2 tbx .lss 3 v240 v244 fun v => kk247 v h n)) (kk247 (.tp []) h n)) fun kk245 =>
 gdB v238 true ((evLen tbx 9 v242 fun v => kk245 v h n)) (kk245 (.tp []) h n)) fun kk243 =>
 gdB v238 true (kk243 v192 h n) (kk243 (.tp []) h n)) fun kk241 =>
 gdB v238 true (kk241 v205 h n) (kk241 (.tp []) h n)) fun kk239 =>
 gdB v223 false (kk239 v236 h n) (kk239 (.tp []) h n)) fun kk237 =>
 gdB v223 false ((evPick v224 v234 (.b false) fun v => kk237 v h n)) (kk237 (.tp []) h n)) fun kk235 =>
 gdB v224 true ((evBin2 tbx .geq 3 v226 v232 fun v => kk235 v h n)) (kk235 (.tp []) h n)) fun kk233 =>
 gdB v224 true ((evBin2 tbx .add 3 (.i .i64 4) v230 fun v => kk233 v h n)) (kk233 (.tp []) h n)) fun kk231 =>
 gdB v224 true ((evBin2 tbx .shr 3 v228 (.i .u64 4) fun v => kk231 v h n)) (kk231 (.tp []) h n)) fun kk229 =>
 gdB v224 true (kk229 v205 h n) (kk229 (.tp []) h n)) fun kk227 =>
 gdB v224 true (kk227 v204 h n) (kk227 (.tp []) h n)) fun kk225 =>
 gdB v223 false (kk225 (.b false) h n) (kk225 (.tp []) h n)) fun kk222 =>
 gdB v214 true ((evBin2 tbx .lss 3 v215 v219 fun v => kk222 v h n)) (kk222 (.tp []) h n)) fun kk220 =>
 gdB v214 true ((evLen tbx 9 v217 fun v => kk220 v h n)) (kk220 (.tp []) h n)) fun kk218 =>
 gdB v214 true (kk218 v192 h n) (kk218 (.tp []) h n)) fun kk216 =>
 gdB v214 true (kk216 v205 h n) (kk216 (.tp []) h n)) fun kk213 =>
 gdB (.b true) true ((evBin2 tbx .gtr 3 v206 v210 fun v => kk213 v h n)) (kk213 (.tp []) h n)) fun kk211 =>
 gdB (.b true) true ((cf 193 [v208] h n kk211)) (kk211 (.tp []) h n)) fun kk209 =>
 gdB (.b true) true (kk209 v205 h n) (kk209 (.tp []) h n)) fun kk207 =>
 gdB (.b true) true (kk207 v204 h n) (kk207 (.tp []) h n)) fu) fun lo176 =>
 jp (fun (s251 : VT [0, 1, 7, 8, 9, 10]) h n => pc s251 fun v253 s254 => pc s254 fun v255 s256 => pc s256 fun v257 s258 => pc s258 fun v259 s260 => pc s260 fun v261 s262 => pc s262 fun v263 s264 =>
 jp (fun (s265 : VT [8, 9]) h n => pc s265 fun v267 s268 => pc s268 fun v269 s270 => evBin2 tbx .sub 3 v269 v267 fun v271 =>
 k v271 h n) fun kk266 =>
 lpC [0, 1, 7, 8, 9, 10, 12] (fun lo273 s272 h n => pc s272 fun v274 s275 => pc s275 fun v276 s277 => pc s277 fun v278 s279 => pc s279 fun v280 s281 => pc s281 fun v282 s283 => pc s283 fun v284 s285 => pc s285 fun v286 s287 =>
 evLen tbx 9 v278 fun v288 => evBin2 tbx .lss 3 v286 v288 fun v289 =>
 brB v289 (
 jp (fun (s290 : VT [0, 1, 7, 8, 9, 10, 12]) h n => pc s290 fun v292 s293 => pc s293 fun v294 s295 => pc s295 fun v296 s297 => pc s297 fun v298 s299 => pc s299 fun v300 s301 => pc s301 fun v302 s303 => pc s303 fun v304 s305 => evBin2 tbx .add 3 v304 (.i .i64 1) fun v306 =>
 lo273 (v292, v294, v296, v298, v300, v302, v306, ()) h n) fun kk291 => evBin2 tbx .sub 3 v282 v286 fun v307 =>
 evIx tbx 9 v274 v307 fun v308 => evBin2 tbx .sub 3 v280 v286 fun v309 =>
 evIx tbx 9 v278 v309 fun v310 => evBin2 tbx .neq 5 v308 v310 fun v311 =>
 brB v311 (
 lo176 (v274, v276, v278, v280, v282, v284, ()) h n) (
 kk291 (v274, v276, v278, v280, v282, v284, v286, ()) h n)) (
 kk266 (v280, v282, ()) h n)) fu (v253, v255, v257, v259, v261, v263, (.i .i64 1), ()) h n) fun kk252 =>
 evIx tbx 9 v147 v155 fun v312 =>
 evIx tbx 9 v151 v153 fun v313 => evBin2 tbx .neq 5 v312 v313 fun v314 =>
 brB v314 ( evBin2 tbx .add 3 v155 (.i .i64 1) fun v315 =>
 evSlc tbx 9 v147 (some v315) none fun v316 =>
 evIx tbx 9 v151 v153 fun v317 =>
 cf 93 [v316, v317] h n fun v318 h n => evBin2 tbx .lss 3 v318 (.i .i64 0) fun v319 =>
 brB v319 (
 k (.i .i64 (-1)) h n) ( evBin2 tbx .add 3 v318 (.i .i64 1) fun v320 => evBin2 tbx .add 3 v155 v320 fun v321 =>
 kk252 (v147, v149, v151, v153, v321, v157, ()) h n)) (
 kk252 (v147, v149, v151, v153, v155, v157, ()) h n)) (
 kk144 (()) h n)) fu (a0, a1, v140, v142, v142, (.i .i64 0), ()) h n)))) fun kk9 =>
 gdB v5 true ((evBin2 tbx .lss 21 v6 (.i .i32 128) fun v => kk9 v h n)) (kk9 (.tp []) h n)) fun kk7 =>
 gdB v5 true (kk7 a1 h n) (kk7 (.tp []) h n)
noncomputable def e268 : FE := ⟨Tryz.f268, bd Tryz.f268, [0, 1], [4], (.q .z (.b [4] (.q .z (.c (.q .z .z) (.q .z (.c (.q (.q .z (.b [] (.l [175] (.q .z (.q (.c .z .z) (.b [175] (.q .z (.q .z (.c (.q .z .z) .z))))))))) (.q .z .z)) (.q .z (.c (.q .z .z) (.g 1 [0, 1, 7, 8, 9] [4] (.q .z (.q .z (.q .z (.q .z (.q (.b [] (.l [0, 1, 7, 8, 9, 10] (.q (.q .z (.c .z .z)) (.b [0, 1, 7, 8, 9, 10] (.g 0 [0, 1, 7, 8, 9, 10] [0, 1, 7, 8, 9, 10] (.s [0, 1, 7, 8, 9, 10] (.q .z (.c (.q .z (.q (.q .z (.c (.q .z .z) .z)) .z)) .z)) (.q (.q .z (.b [8, 9] (.l [0, 1, 7, 8, 9, 10, 12] (.q (.q .z (.c .z .z)) (.q (.b [0, 1, 7, 8, 9, 10, 12] (.q .z (.c .z .z))) .z))))) (.q (.q .z .z) (.q .z (.q .z (.q .z (.q .z (.c .z .z)))))))) (.q .z (.q .z (.q .z (.q .z (.c .z .z)))))))))) (.q (.q .z .z) (.q .z (.s [] (.c (.q .z (.q .z (.c (.q .z .z) .z))) (.o (.q .z (.q .z (.q .z (.b [] (.l [0, 7, 8, 9, 14, 15] (.q (.q .z (.c .z .z)) (.q (.b [0, 7, 8, 9, 14, 15] (.q .z (.c (.q (.q .z (.b [8, 9] (.l [0, 7, 8, 9, 14, 15, 16] (.q (.q .z (.c .z .z)) (.q (.b [0, 7, 8, 9, 14, 15, 16] (.q .z (.c .z .z))) .z))))) (.q .z .z)) .z))) .z))))))))) (.q .z .z))))))))) (.q .z (.s [] (.c (.q .z (.q .z (.c (.q .z .z) .z))) (.o (.q .z (.q .z (.q .z (.b [] (.l [0, 7, 8, 9, 14, 15] (.q (.q .z (.c .z .z)) (.q (.b [0, 7, 8, 9, 14, 15] (.q .z (.c (.q (.q .z (.b [8, 9] (.l [0, 7, 8, 9, 14, 15, 16] (.q (.q .z (.c .z .z)) (.q (.b [0, 7, 8, 9, 14, 15, 16] (.q .z (.c .z .z))) .z))))) (.q .z .z)) .z))) .z))))))))) (.q .z .z))))))))))))⟩
theorem q268 (fu : Nat) (cf : CF) (a0 a1 : V) (h : H) (n : Id) (k : KV) : evF fu cf e268 [a0, a1] h n k = s268 fu cf a0 a1 h n k := by kernel_rfl
theorem p268 : PfOk Tryz.prog tbx mtab 268 (w2 (s268 fuX)) := pfo e268 Tryz.func268 (by kernel_rfl) (w2_ok (q268 fuX))
noncomputable def s269 (fu : Nat) (cf : CF) (a0 : V) (h : H) (n : Id) (k : KV) : R :=
 evBin2 tbx .gtr 3 a0 (.i .i64 8) fun v1 =>
 k v1 h n
noncomputable def e269 : FE := ⟨Tryz.f269, bd Tryz.f269, [0], [2], (.q .z (.q .z .z))⟩
theorem q269 (fu : Nat) (cf : CF) (a0 : V) (h : H) (n : Id) (k : KV) : evF fu cf e269 [a0] h n k = s269 fu cf a0 h n k := by kernel_rfl
theorem p269 : PfOk Tryz.prog tbx mtab 269 (w1 (s269 fuX)) := pfo e269 Tryz.func269 (by kernel_rfl) (w1_ok (q269 fuX))
noncomputable def s270 (fu : Nat) (cf : CF) (a0 a1 : V) (h : H) (n : Id) (k : KV) : R :=
 evNc' a0 fun v1 => evIa tbx 293 v1 a1 fun v2 => evLoad tbx 4 v2 h fun v3 =>
 k v3 h n
noncomputable def e270 : FE := ⟨Tryz.f270, bd Tryz.f270, [0, 1], [4], (.q .z (.q .z .z))⟩
theorem q270 (fu : Nat) (cf : CF) (a0 a1 : V) (h : H) (n : Id) (k : KV) : evF fu cf e270 [a0, a1] h n k = s270 fu cf a0 a1 h n k := by kernel_rfl
theorem p270 : PfOk Tryz.prog tbx mtab 270 (w2 (s270 fuX)) := pfo e270 Tryz.func270 (by kernel_rfl) (w2_ok (q270 fuX))
noncomputable def s271 (fu : Nat) (cf : CF) (a0 a1 : V) (h : H) (n : Id) (k : KV) : R :=
 cf 138 [a0, a1] h n fun v1 h n => evBin2 tbx .geq 3 v1 (.i .i64 0) fun v2 =>
 brB v2 (
 evSlc tbx 9 a0 none (some v1) fun v3 =>
 evLen tbx 9 a1 fun v4 => evBin2 tbx .add 3 v1 v4 fun v5 =>
 evSlc tbx 9 a0 (some v5) none fun v6 =>
 k (.tp [v3, v6, (.b true)]) h n) (
 k (.tp [a0, (.s 0 0), (.b false)]) h n)
noncomputable def e271 : FE := ⟨Tryz.f271, bd Tryz.f271, [0, 1], [4, 5, 6], (.q .z (.q (.q .z (.q .z (.c (.q .z .z) .z))) (.q .z .z)))⟩
theorem q271 (fu : Nat) (cf : CF) (a0 a1 : V) (h : H) (n : Id) (k : KV) : evF fu cf e271 [a0, a1] h n k = s271 fu cf a0 a1 h n k := by kernel_rfl
theorem p271 : PfOk Tryz.prog tbx mtab 271 (w2 (s271 fuX)) := pfo e271 Tryz.func271 (by kernel_rfl) (w2_ok (q271 fuX))
noncomputable def s272 (fu : Nat) (cf : CF) (a0 a1 : V) (h : H) (n : Id) (k : KV) : R :=
 jp (fun (s1 : VT [0]) h n => pc s1 fun v3 s4 =>
 k v3 h n) fun kk2 =>
 lpC [0, 1] (fun lo6 s5 h n => pc s5 fun v7 s8 => pc s8 fun v9 s10 =>
 evLen tbx 9 v7 fun v11 => evBin2 tbx .gtr 3 v11 (.i .i64 0) fun v12 =>
 jp (fun (v13 : V) h n =>
 jp (fun (v15 : V) h n =>
 jp (fun (v17 : V) h n =>
 jp (fun (v19 : V) h n =>
 jp (fun (v21 : V) h n =>
 jp (fun (v23 : V) h n =>
 jp (fun (v25 : V) h n => evPick v12 v25 (.b false) fun v27 =>
 brB v27 (
 jp (fun (s28 : VT [0, 1]) h n => pc s28 fun v30 s31 => pc s31 fun v32 s33 =>
 lo6 (v30, v32, ()) h n) fun kk29 =>
 evLen tbx 9 v7 fun v34 => evBin2 tbx .sub 3 v34 (.i .i64 1) fun v35 =>
 evSlc tbx 9 v7 none (some v35) fun v36 =>
 kk29 (v36, v9, ()) h n) (
 kk2 (v7, ()) h n)) fun kk26 =>
 gdB v12 true ((evBin2 tbx .eql 5 v21 v23 fun v => kk26 v h n)) (kk26 (.tp []) h n)) fun kk24 =>
 gdB v12 true (kk24 v9 h n) (kk24 (.tp []) h n)) fun kk22 =>
 gdB v12 true ((evIx tbx 9 v13 v19 fun v => kk22 v h n)) (kk22 (.tp []) h n)) fun kk20 =>
 gdB v12 true ((evBin2 tbx .sub 3 v17 (.i .i64 1) fun v => kk20 v h n)) (kk20 (.tp []) h n)) fun kk18 =>
 gdB v12 true ((evLen tbx 9 v15 fun v => kk18 v h n)) (kk18 (.tp []) h n)) fun kk16 =>
 gdB v12 true (kk16 v7 h n) (kk16 (.tp []) h n)) fun kk14 =>
 gdB v12 true (kk14 v7 h n) (kk14 (.tp []) h n)) fu (a0, a1, ()) h n
noncomputable def e272 : FE := ⟨Tryz.f272, bd Tryz.f272, [0, 1], [4], (.q .z (.q (.b [0] (.l [0, 1] (.q (.q .z (.c .z .z)) (.b [0, 1] .z)))) (.q .z .z)))⟩
theorem q272 (fu : Nat) (cf : CF) (a0 a1 : V) (h : H) (n : Id) (k : KV) : evF fu cf e272 [a0, a1] h n k = s272 fu cf a0 a1 h n k := by kernel_rfl
theorem p272 : PfOk Tryz.prog tbx mtab 272 (w2 (s272 fuX)) := pfo e272 Tryz.func272 (by kernel_rfl) (w2_ok (q272 fuX))
noncomputable def s275 (fu : Nat) (cf : CF) (a0 a1 : V) (h : H) (n : Id) (k : KV) : R :=
 cf 59 [a0] h n fun v1 h n =>
 jp (fun (v2 : V) h n =>
 jp (fun (v4 : V) h n =>
 jp (fun (v6 : V) h n =>
 jp (fun (v8 : V) h n =>
 jp (fun (v10 : V) h n =>
 jp (fun (v12 : V) h n => evPick v1 (.b true) v12 fun v14 =>
 k v14 h n) fun kk13 =>
 gdB v1 false ((evPick v6 v10 (.b false) fun v => kk13 v h n)) (kk13 (.tp []) h n)) fun kk11 =>
 gdB v6 true ((evUn .not v8 fun v => kk11 v h n)) (kk11 (.tp []) h n)) fun kk9 =>
 gdB v6 true (kk9 a1 h n) (kk9 (.tp []) h n)) fun kk7 =>
 gdB v1 false (kk7 v4 h n) (kk7 (.tp []) h n)) fun kk5 =>
 gdB v1 false ((evBin2 tbx .eql 9 v2 (.s 0 0) fun v => kk5 v h n)) (kk5 (.tp []) h n)) fun kk3 =>
 gdB v1 false (kk3 a0 h n) (kk3 (.tp []) h n)
noncomputable def e275 : FE := ⟨Tryz.f275, bd Tryz.f275, [0, 1], [4], (.q .z (.q .z .z))⟩
theorem q275 (fu : Nat) (cf : CF) (a0 a1 : V) (h : H) (n : Id) (k : KV) : evF fu cf e275 [a0, a1] h n k = s275 fu cf a0 a1 h n k := by kernel_rfl
theorem p275 : PfOk Tryz.prog tbx mtab 275 (w2 (s275 fuX)) := pfo e275 Tryz.func275 (by kernel_rfl) (w2_ok (q275 fuX))
noncomputable def s285 (fu : Nat) (cf : CF) (a0 : V) (h : H) (n : Id) (k : KV) : R :=
 evBin2 tbx .neq 9 a0 (.s 0 0) fun v1 =>
 jp (fun (v2 : V) h n =>
 jp (fun (v4 : V) h n =>
 jp (fun (v6 : V) h n => evPick v1 v6 (.b false) fun v8 =>
 brB v8 (
 evIx tbx 9 a0 (.i .i64 0) fun v9 =>
 evConv2 tbx mtab 5 21 v9 h n fun v10 h n =>
 k (.tp [v10, (.i .i64 1)]) h n) (
 cf 308 [a0] h n fun v11 h n => evExt 0 v11 fun v12 => evExt 1 v11 fun v13 =>
 k (.tp [v12, v13]) h n)) fun kk7 =>
 gdB v1 true ((evBin2 tbx .lss 5 v4 (.i .u8 128) fun v => kk7 v h n)) (kk7 (.tp []) h n)) fun kk5 =>
 gdB v1 true ((evIx tbx 9 v2 (.i .i64 0) fun v => kk5 v h n)) (kk5 (.tp []) h n)) fun kk3 =>
 gdB v1 true (kk3 a0 h n) (kk3 (.tp []) h n)
noncomputable def e285 : FE := ⟨Tryz.f285, bd Tryz.f285, [0], [2, 3], (.q .z (.q (.q .z (.c (.q .z .z) .z)) .z))⟩
theorem q285 (fu : Nat) (cf : CF) (a0 : V) (h : H) (n : Id) (k : KV) : evF fu cf e285 [a0] h n k = s285 fu cf a0 h n k := by kernel_rfl
theorem p285 : PfOk Tryz.prog tbx mtab 285 (w1 (s285 fuX)) := pfo e285 Tryz.func285 (by kernel_rfl) (w1_ok (q285 fuX))
noncomputable def s287 (fu : Nat) (cf : CF) (a0 a1 : V) (h : H) (n : Id) (k : KV) : R :=
 evLen tbx 9 a0 fun v1 =>
 evLen tbx 9 a1 fun v2 => evBin2 tbx .geq 3 v1 v2 fun v3 =>
 jp (fun (v4 : V) h n =>
 jp (fun (v6 : V) h n =>
 jp (fun (v8 : V) h n =>
 jp (fun (v10 : V) h n =>
 jp (fun (v12 : V) h n =>
 jp (fun (v14 : V) h n =>
 jp (fun (v16 : V) h n =>
 jp (fun (v18 : V) h n =>
 jp (fun (v20 : V) h n => evPick v3 v20 (.b false) fun v22 =>
 k v22 h n) fun kk21 =>
 gdB v3 true ((evBin2 tbx .eql 9 v16 v18 fun v => kk21 v h n)) (kk21 (.tp []) h n)) fun kk19 =>
 gdB v3 true (kk19 a1 h n) (kk19 (.tp []) h n)) fun kk17 =>
 gdB v3 true ((evSlc tbx 9 v4 (some v14) none fun v => kk17 v h n)) (kk17 (.tp []) h n)) fun kk15 =>
 gdB v3 true ((evBin2 tbx .sub 3 v8 v12 fun v => kk15 v h n)) (kk15 (.tp []) h n)) fun kk13 =>
 gdB v3 true ((evLen tbx 9 v10 fun v => kk13 v h n)) (kk13 (.tp []) h n)) fun kk11 =>
 gdB v3 true (kk11 a1 h n) (kk11 (.tp []) h n)) fun kk9 =>
 gdB v3 true ((evLen tbx 9 v6 fun v => kk9 v h n)) (kk9 (.tp []) h n)) fun kk7 =>
 gdB v3 true (kk7 a0 h n) (kk7 (.tp []) h n)) fun kk5 =>
 gdB v3 true (kk5 a0 h n) (kk5 (.tp []) h n)
noncomputable def e287 : FE := ⟨Tryz.f287, bd Tryz.f287, [0, 1], [4], (.q .z (.q .z .z))⟩
theorem q287 (fu : Nat) (cf : CF) (a0 a1 : V) (h : H) (n : Id) (k : KV) : evF fu cf e287 [a0, a1] h n k = s287 fu cf a0 a1 h n k := by kernel_rfl
theorem p287 : PfOk Tryz.prog tbx mtab 287 (w2 (s287 fuX)) := pfo e287 Tryz.func287 (by kernel_rfl) (w2_ok (q287 fuX))
noncomputable def s289 (fu : Nat) (cf : CF) (a0 a1 : V) (h : H) (n : Id) (k : KV) : R :=
 evLen tbx 160 a0 fun v1 =>
 jp (fun (s2 : VT []) h n =>
 k (.i .i64 (-1)) h n) fun kk3 =>
 lpC [0, 1, 7, 8] (fun lo5 s4 h n => pc s4 fun v6 s7 => pc s7 fun v8 s9 => pc s9 fun v10 s11 => pc s11 fun v12 s13 => evBin2 tbx .lss 3 v12 v10 fun v14 =>
 brB v14 (
 jp (fun (s15 : VT [0, 1, 7, 8]) h n => pc s15 fun v17 s18 => pc s18 fun v19 s20 => pc s20 fun v21 s22 => pc s22 fun v23 s24 => evBin2 tbx .add 3 v23 (.i .i64 1) fun v25 =>
 lo5 (v17, v19, v21, v25, ()) h n) fun kk16 => evIa tbx 160 v6 v12 fun v26 => evLoad tbx 303 v26 h fun v27 =>
 evCall cf v8 [v27] h n fun v28 h n =>
 brB v28 (
 k v12 h n) (
 kk16 (v6, v8, v10, v12, ()) h n)) (
 kk3 (()) h n)) fu (a0, a1, v1, (.i .i64 0), ()) h n
noncomputable def e289 : FE := ⟨Tryz.f289, bd Tryz.f289, [0, 1], [4], (.q .z (.q (.q .z (.b [] (.l [0, 1, 7, 8] (.q .z (.q (.c .z .z) (.q (.b [0, 1, 7, 8] (.q .z (.q .z (.c (.q .z .z) .z)))) .z)))))) (.q .z .z)))⟩
theorem q289 (fu : Nat) (cf : CF) (a0 a1 : V) (h : H) (n : Id) (k : KV) : evF fu cf e289 [a0, a1] h n k = s289 fu cf a0 a1 h n k := by kernel_rfl
theorem p289 : PfOk Tryz.prog tbx mtab 289 (w2 (s289 fuX)) := pfo e289 Tryz.func289 (by kernel_rfl) (w2_ok (q289 fuX))
noncomputable def s291 (fu : Nat) (cf : CF) (a0 : V) (h : H) (n : Id) (k : KV) : R :=
 evBin2 tbx .geq 5 a0 (.i .u8 65) fun v1 =>
 jp (fun (v2 : V) h n =>
 jp (fun (v4 : V) h n => evPick v1 v4 (.b false) fun v6 =>
 jp (fun (v7 : V) h n =>
 jp (fun (v9 : V) h n =>
 jp (fun (v11 : V) h n =>
 jp (fun (v13 : V) h n =>
 jp (fun (v15 : V) h n =>
 jp (fun (v17 : V) h n => evPick v6 (.b true) v17 fun v19 =>
 jp (fun (v20 : V) h n =>
 jp (fun (v22 : V) h n => evPick v19 (.b true) v22 fun v24 =>
 k v24 h n) fun kk23 =>
 gdB v19 false ((evBin2 tbx .eql 5 v20 (.i .u8 95) fun v => kk23 v h n)) (kk23 (.tp []) h n)) fun kk21 =>
 gdB v19 false (kk21 a0 h n) (kk21 (.tp []) h n)) fun kk18 =>
 gdB v6 false ((evPick v11 v15 (.b false) fun v => kk18 v h n)) (kk18 (.tp []) h n)) fun kk16 =>
 gdB v11 true ((evBin2 tbx .leq 5 v13 (.i .u8 122) fun v => kk16 v h n)) (kk16 (.tp []) h n)) fun kk14 =>
 gdB v11 true (kk14 a0 h n) (kk14 (.tp []) h n)) fun kk12 =>
 gdB v6 false (kk12 v9 h n) (kk12 (.tp []) h n)) fun kk10 =>
 gdB v6 false ((evBin2 tbx .geq 5 v7 (.i .u8 97) fun v => kk10 v h n)) (kk10 (.tp []) h n)) fun kk8 =>
 gdB v6 false (kk8 a0 h n) (kk8 (.tp []) h n)) fun kk5 =>
 gdB v1 true ((evBin2 tbx .leq 5 v2 (.i .u8 90) fun v => kk5 v h n)) (kk5 (.tp []) h n)) fun kk3 =>
 gdB v1 true (kk3 a0 h n) (kk3 (.tp []) h n)
noncomputable def e291 : FE := ⟨Tryz.f291, bd Tryz.f291, [0], [2], (.q .z (.q .z .z))⟩
theorem q291 (fu : Nat) (cf : CF) (a0 : V) (h : H) (n : Id) (k : KV) : evF fu cf e291 [a0] h n k = s291 fu cf a0 h n k := by kernel_rfl
theorem p291 : PfOk Tryz.prog tbx mtab 291 (w1 (s291 fuX)) := pfo e291 Tryz.func291 (by kernel_rfl) (w1_ok (q291 fuX))
noncomputable def s292 (fu : Nat) (cf : CF) (a0 : V) (h : H) (n : Id) (k : KV) : R :=
 cf 291 [a0] h n fun v1 h n =>
 jp (fun (v2 : V) h n =>
 jp (fun (v4 : V) h n => evPick v1 (.b true) v4 fun v6 =>
 jp (fun (v7 : V) h n =>
 jp (fun (v9 : V) h n => evPick v6 (.b true) v9 fun v11 =>
 jp (fun (v12 : V) h n =>
 jp (fun (v14 : V) h n => evPick v11 (.b true) v14 fun v16 =>
 jp (fun (v17 : V) h n =>
 jp (fun (v19 : V) h n => evPick v16 (.b true) v19 fun v21 =>
 k v21 h n) fun kk20 =>
 gdB v16 false ((evBin2 tbx .eql 5 v17 (.i .u8 58) fun v => kk20 v h n)) (kk20 (.tp []) h n)) fun kk18 =>
 gdB v16 false (kk18 a0 h n) (kk18 (.tp []) h n)) fun kk15 =>
 gdB v11 false ((evBin2 tbx .eql 5 v12 (.i .u8 46) fun v => kk15 v h n)) (kk15 (.tp []) h n)) fun kk13 =>
 gdB v11 false (kk13 a0 h n) (kk13 (.tp []) h n)) fun kk10 =>
 gdB v6 false ((evBin2 tbx .eql 5 v7 (.i .u8 45) fun v => kk10 v h n)) (kk10 (.tp []) h n)) fun kk8 =>
 gdB v6 false (kk8 a0 h n) (kk8 (.tp []) h n)) fun kk5 =>
 gdB v1 false ((cf 188 [v2] h n kk5)) (kk5 (.tp []) h n)) fun kk3 =>
 gdB v1 false (kk3 a0 h n) (kk3 (.tp []) h n)
noncomputable def e292 : FE := ⟨Tryz.f292, bd Tryz.f292, [0], [2], (.q .z (.q .z .z))⟩
theorem q292 (fu : Nat) (cf : CF) (a0 : V) (h : H) (n : Id) (k : KV) : evF fu cf e292 [a0] h n k = s292 fu cf a0 h n k := by kernel_rfl
theorem p292 : PfOk Tryz.prog tbx mtab 292 (w1 (s292 fuX)) := pfo e292 Tryz.func292 (by kernel_rfl) (w1_ok (q292 fuX))
noncomputable def s293 (fu : Nat) (cf : CF) (a0 : V) (h : H) (n : Id) (k : KV) : R :=
 evNc' a0 fun v1 => evFa tbx 314 0 v1 fun v2 => evLoad tbx 312 v2 h fun v3 => evBin2 tbx .eql 312 v3 .np fun v4 =>
 brB v4 (
 evConv2 tbx mtab 312 361 a0 h n fun v5 h n =>
 cf 311 [v5] h n fun v6 h n =>
 evConv2 tbx mtab 361 312 v6 h n fun v7 h n =>
 evNc' a0 fun v8 => evFa tbx 314 0 v8 fun v9 =>
 evStore tbx 312 v9 v7 h n fun _ h n =>
 k (.tp []) h n) (
 evNc' a0 fun v10 => evFa tbx 314 0 v10 fun v11 => evLoad tbx 312 v11 h fun v12 => evBin2 tbx .neq 312 v12 a0 fun v13 =>
 brB v13 (
 none) (
 k (.tp []) h n))
noncomputable def e293 : FE := ⟨Tryz.f293, bd Tryz.f293, [0], [], (.q .z (.c .z (.q .z (.c .z .z))))⟩
theorem q293 (fu : Nat) (cf : CF) (a0 : V) (h : H) (n : Id) (k : KV) : evF fu cf e293 [a0] h n k = s293 fu cf a0 h n k := by kernel_rfl
theorem p293 : PfOk Tryz.prog tbx mtab 293 (w1 (s293 fuX)) := pfo e293 Tryz.func293 (by kernel_rfl) (w1_ok (q293 fuX))
noncomputable def s294 (fu : Nat) (cf : CF) (a0 a1 a2 a3 a4 : V) (h : H) (n : Id) (k : KV) : R :=
 jp (fun (s1 : VT []) h n =>
 k (.tp []) h n) fun kk2 =>
 lpC [0, 1, 2, 3, 4, 10, 11] (fun lo4 s3 h n => pc s3 fun v5 s6 => pc s6 fun v7 s8 => pc s8 fun v9 s10 => pc s10 fun v11 s12 => pc s12 fun v13 s14 => pc s14 fun v15 s16 => pc s16 fun v17 s18 =>
 jp (fun (s19 : VT [0, 1, 2, 3, 4, 10, 11]) h n => pc s19 fun v21 s22 => pc s22 fun v23 s24 => pc s24 fun v25 s26 => pc s26 fun v27 s28 => pc s28 fun v29 s30 => pc s30 fun v31 s32 => pc s32 fun v33 s34 =>
 lo4 (v21, v23, v25, v27, v29, v31, v33, ()) h n) fun kk20 => evBin2 tbx .sub 3 v9 v7 fun v35 => evBin2 tbx .leq 3 v35 (.i .i64 12) fun v36 =>
 brB v36 (
 cf 312 [v5, v7, v9, v13] h n fun v37 h n =>
 k (.tp []) h n) ( evBin2 tbx .eql 3 v11 (.i .i64 0) fun v38 =>
 brB v38 (
 cf 313 [v5, v7, v9, v13] h n fun v39 h n =>
 k (.tp []) h n) (
 jp (fun (s40 : VT [0, 1, 2, 3, 4, 10, 11, 12]) h n => pc s40 fun v42 s43 => pc s43 fun v44 s45 => pc s45 fun v46 s47 => pc s47 fun v48 s49 => pc s49 fun v50 s51 => pc s51 fun v52 s53 => pc s53 fun v54 s55 => pc s55 fun v56 s57 =>
 cf 315 [v42, v44, v46, v50] h n fun v58 h n => evExt 0 v58 fun v59 => evExt 1 v58 fun v60 =>
 jp (fun (s61 : VT [0, 1, 2, 3, 4, 10, 11, 12, 13, 14]) h n => pc s61 fun v63 s64 => pc s64 fun v65 s66 => pc s66 fun v67 s68 => pc s68 fun v69 s70 => pc s70 fun v71 s72 => pc s72 fun v73 s74 => pc s74 fun v75 s76 => pc s76 fun v77 s78 => pc s78 fun v79 s80 => pc s80 fun v81 s82 =>
 jp (fun (s83 : VT [0, 1, 2, 3, 4, 10, 11, 12, 13]) h n => pc s83 fun v85 s86 => pc s86 fun v87 s88 => pc s88 fun v89 s90 => pc s90 fun v91 s92 => pc s92 fun v93 s94 => pc s94 fun v95 s96 => pc s96 fun v97 s98 => pc s98 fun v99 s100 => pc s100 fun v101 s102 => evBin2 tbx .gtr 3 v87 (.i .i64 0) fun v103 =>
 jp (fun (v104 : V) h n =>
 jp (fun (v106 : V) h n =>
 jp (fun (v108 : V) h n =>
 jp (fun (v110 : V) h n =>
 jp (fun (v112 : V) h n =>
 jp (fun (v114 : V) h n =>
 jp (fun (v116 : V) h n =>
 jp (fun (v118 : V) h n =>
 jp (fun (v120 : V) h n =>
 jp (fun (v122 : V) h n =>
 thenR (wsB (wV v103 true) (evLoad tbx 57 v112 h fun w124 => cond (eqV 6 w124 v114) (okR) none) (cond (eqV 2 v114 (.tp [])) okR none)) (
 thenR (wsB (wV v103 true) (evLoad tbx 57 v120 h fun w125 => cond (eqV 6 w125 v122) (okR) none) (cond (eqV 2 v122 (.tp [])) okR none)) (
 jp (fun (v126 : V) h n =>
 jp (fun (v128 : V) h n =>
 jp (fun (v130 : V) h n => evPick v103 v130 (.b false) fun v132 =>
 brB v132 (
 cf 318 [v85, v87, v89, v101, v93] h n fun v133 h n =>
 kk20 (v85, v133, v89, v91, v93, v95, v97, ()) h n) (
 cf 319 [v85, v87, v89, v101, v93] h n fun v134 h n => evExt 0 v134 fun v135 => evExt 1 v134 fun v136 => evBin2 tbx .sub 3 v135 v87 fun v137 => evBin2 tbx .sub 3 v89 v135 fun v138 => evBin2 tbx .quo 3 v99 (.i .i64 8) fun v139 => evBin2 tbx .lss 3 v137 v138 fun v140 =>
 brB v140 ( evBin2 tbx .geq 3 v137 v139 fun v141 =>
 cf 294 [v85, v87, v135, v91, v93] h n fun v142 h n => evBin2 tbx .add 3 v135 (.i .i64 1) fun v143 =>
 kk20 (v85, v143, v89, v91, v93, v141, v136, ()) h n) ( evBin2 tbx .geq 3 v138 v139 fun v144 => evBin2 tbx .add 3 v135 (.i .i64 1) fun v145 =>
 cf 294 [v85, v145, v89, v91, v93] h n fun v146 h n =>
 kk20 (v85, v87, v135, v91, v93, v144, v136, ()) h n))) fun kk131 =>
 wsB (wV v103 true) ((evUn .not v128 fun v => kk131 v h n)) (kk131 (.tp []) h n)) fun kk129 =>
 wsB (wV v103 true) ((evBin2 tbx .lss 3 v126 (.i .i64 0) fun v => kk129 v h n)) (kk129 (.tp []) h n)) fun kk127 =>
 wsB (wV v103 true) ((evCall cf v104 [v114, v122] h n kk127)) (kk127 (.tp []) h n)))) fun kk123 =>
 wsB (wV v103 true) ((evLoad tbx 57 v120 h fun v => kk123 v h n)) (kk123 (.tp []) h n)) fun kk121 =>
 wsB (wV v103 true) ((evIa tbx 29 v116 v118 fun v => kk121 v h n)) (kk121 (.tp []) h n)) fun kk119 =>
 wsB (wV v103 true) (kk119 v101 h n) (kk119 (.tp []) h n)) fun kk117 =>
 wsB (wV v103 true) (kk117 v85 h n) (kk117 (.tp []) h n)) fun kk115 =>
 wsB (wV v103 true) ((evLoad tbx 57 v112 h fun v => kk115 v h n)) (kk115 (.tp []) h n)) fun kk113 =>
 wsB (wV v103 true) ((evIa tbx 29 v106 v110 fun v => kk113 v h n)) (kk113 (.tp []) h n)) fun kk111 =>
 wsB (wV v103 true) ((evBin2 tbx .sub 3 v108 (.i .i64 1) fun v => kk111 v h n)) (kk111 (.tp []) h n)) fun kk109 =>
 wsB (wV v103 true) (kk109 v87 h n) (kk109 (.tp []) h n)) fun kk107 =>
 wsB (wV v103 true) (kk107 v85 h n) (kk107 (.tp []) h n)) fun kk105 =>
 wsB (wV v103 true) (kk105 v93 h n) (kk105 (.tp []) h n)) fun kk84 =>
 jp (fun (v147 : V) h n => evPick v73 v147 (.b false) fun v149 =>
 jp (fun (v150 : V) h n =>
 jp (fun (v152 : V) h n => evPick v149 v152 (.b false) fun v154 =>
 brB v154 (
 cf 317 [v63, v65, v67, v71] h n fun v155 h n =>
 brB v155 (
 k (.tp []) h n) (
 kk84 (v63, v65, v67, v69, v71, v73, v75, v77, v79, ()) h n)) (
 kk84 (v63, v65, v67, v69, v71, v73, v75, v77, v79, ()) h n)) fun kk153 =>
 gdB v149 true ((evBin2 tbx .eql 138 v150 (.i .i64 1) fun v => kk153 v h n)) (kk153 (.tp []) h n)) fun kk151 =>
 gdB v149 true (kk151 v81 h n) (kk151 (.tp []) h n)) fun kk148 =>
 gdB v73 true (kk148 v75 h n) (kk148 (.tp []) h n)) fun kk62 => evBin2 tbx .eql 138 v60 (.i .i64 2) fun v156 =>
 brB v156 (
 cf 316 [v42, v44, v46, v50] h n fun v157 h n => evBin2 tbx .sub 3 v46 (.i .i64 1) fun v158 => evBin2 tbx .sub 3 v59 v44 fun v159 => evBin2 tbx .sub 3 v158 v159 fun v160 =>
 kk62 (v42, v44, v46, v48, v50, v52, v54, v56, v160, (.i .i64 1), ()) h n) (
 kk62 (v42, v44, v46, v48, v50, v52, v54, v56, v59, v60, ()) h n)) fun kk41 =>
 evUn .not v15 fun v161 =>
 brB v161 (
 cf 314 [v5, v7, v9, v13] h n fun v162 h n => evBin2 tbx .sub 3 v11 (.i .i64 1) fun v163 =>
 kk41 (v5, v7, v9, v163, v13, v15, v17, v35, ()) h n) (
 kk41 (v5, v7, v9, v11, v13, v15, v17, v35, ()) h n)))) fu (a0, a1, a2, a3, a4, (.b true), (.b true), ()) h n
noncomputable def e294 : FE := ⟨Tryz.f294, bd Tryz.f294, [0, 1, 2, 3, 4], [], (.q .z (.q .z (.b [] (.l [0, 1, 2, 3, 4, 10, 11] (.b [0, 1, 2, 3, 4, 10, 11] (.q .z (.q (.q .z (.c (.q .z .z) .z)) (.q (.q .z (.c (.q .z .z) .z)) (.s [0, 1, 2, 3, 4, 10, 11, 12] (.q .z (.c (.q .z .z) .z)) (.q .z (.s [0, 1, 2, 3, 4, 10, 11, 12, 13, 14] (.q .z (.c (.q .z (.q .z .z)) .z)) (.s [0, 1, 2, 3, 4, 10, 11, 12, 13] (.q .z (.c (.q .z (.c .z .z)) .z)) (.q (.q .z (.c (.q .z (.q .z .z)) .z)) (.q .z (.q .z (.q .z (.q .z (.q .z (.c (.q .z (.q .z .z)) (.q .z (.q .z .z)))))))))))))))))))))⟩
theorem q294 (fu : Nat) (cf : CF) (a0 a1 a2 a3 a4 : V) (h : H) (n : Id) (k : KV) : evF fu cf e294 [a0, a1, a2, a3, a4] h n k = s294 fu cf a0 a1 a2 a3 a4 h n k := by kernel_rfl
theorem p294 : PfOk Tryz.prog tbx mtab 294 (w5 (s294 fuX)) := pfo e294 Tryz.func294 (by kernel_rfl) (w5_ok (q294 fuX))
noncomputable def s295 (fu : Nat) (cf : CF) (a0 a1 : V) (h : H) (n : Id) (k : KV) : R :=
 cf 224 [a0, a1] h n fun v1 h n => evBin2 tbx .geq 3 v1 (.i .i64 0) fun v2 =>
 k v2 h n
noncomputable def e295 : FE := ⟨Tryz.f295, bd Tryz.f295, [0, 1], [4], (.q .z (.q .z .z))⟩
theorem q295 (fu : Nat) (cf : CF) (a0 a1 : V) (h : H) (n : Id) (k : KV) : evF fu cf e295 [a0, a1] h n k = s295 fu cf a0 a1 h n k := by kernel_rfl
theorem p295 : PfOk Tryz.prog tbx mtab 295 (w2 (s295 fuX)) := pfo e295 Tryz.func295 (by kernel_rfl) (w2_ok (q295 fuX))
noncomputable def s296 (fu : Nat) (cf : CF) (a0 a1 : V) (h : H) (n : Id) (k : KV) : R :=
 evLen tbx 71 a0 fun v1 =>
 jp (fun (s2 : VT [0, 1]) h n => pc s2 fun v4 s5 => pc s5 fun v6 s7 =>
 jp (fun (s8 : VT [0, 1, 5]) h n => pc s8 fun v10 s11 => pc s11 fun v12 s13 => pc s13 fun v14 s15 =>
 evLen tbx 71 v10 fun v16 =>
 jp (fun (s17 : VT [0, 1, 5]) h n => pc s17 fun v19 s20 => pc s20 fun v21 s22 => pc s22 fun v23 s24 =>
 evAlloc tbx 314 h n fun v25 h n =>
 cf 320 [v25, v23] h n fun v26 h n => evIa tbx 71 v19 (.i .i64 0) fun v27 => evLoad tbx 9 v27 h fun v28 =>
 cf 257 [v25, v28] h n fun v29 h n =>
 evSlc tbx 71 v19 (some (.i .i64 1)) none fun v30 =>
 evLen tbx 71 v30 fun v31 =>
 jp (fun (s32 : VT [8]) h n => pc s32 fun v34 s35 =>
 cf 258 [v34] h n fun v36 h n =>
 k v36 h n) fun kk33 =>
 lpC [1, 8, 63, 64, 65] (fun lo38 s37 h n => pc s37 fun v39 s40 => pc s40 fun v41 s42 => pc s42 fun v43 s44 => pc s44 fun v45 s46 => pc s46 fun v47 s48 => evBin2 tbx .lss 3 v47 v45 fun v49 =>
 brB v49 (
 jp (fun (s50 : VT [1, 8, 63, 64, 65]) h n => pc s50 fun v52 s53 => pc s53 fun v54 s55 => pc s55 fun v56 s57 => pc s57 fun v58 s59 => pc s59 fun v60 s61 => evBin2 tbx .add 3 v60 (.i .i64 1) fun v62 =>
 lo38 (v52, v54, v56, v58, v62, ()) h n) fun kk51 => evIa tbx 71 v43 v47 fun v63 => evLoad tbx 9 v63 h fun v64 =>
 cf 257 [v41, v39] h n fun v65 h n =>
 cf 257 [v41, v64] h n fun v66 h n =>
 kk51 (v39, v41, v43, v45, v47, ()) h n) (
 kk33 (v41, ()) h n)) fu (v21, v25, v30, v31, (.i .i64 0), ()) h n) fun kk18 =>
 lpC [0, 1, 5, 39, 40, 41] (fun lo68 s67 h n => pc s67 fun v69 s70 => pc s70 fun v71 s72 => pc s72 fun v73 s74 => pc s74 fun v75 s76 => pc s76 fun v77 s78 => pc s78 fun v79 s80 => evBin2 tbx .lss 3 v79 v77 fun v81 =>
 brB v81 (
 jp (fun (s82 : VT [0, 1, 5, 39, 40, 41]) h n => pc s82 fun v84 s85 => pc s85 fun v86 s87 => pc s87 fun v88 s89 => pc s89 fun v90 s91 => pc s91 fun v92 s93 => pc s93 fun v94 s95 => evBin2 tbx .add 3 v94 (.i .i64 1) fun v96 =>
 lo68 (v84, v86, v88, v90, v92, v96, ()) h n) fun kk83 => evIa tbx 71 v75 v79 fun v97 => evLoad tbx 9 v97 h fun v98 =>
 jp (fun (s99 : VT [0, 1, 5, 7, 39, 40, 41]) h n => pc s99 fun v101 s102 => pc s102 fun v103 s104 => pc s104 fun v105 s106 => pc s106 fun v107 s108 => pc s108 fun v109 s110 => pc s110 fun v111 s112 => pc s112 fun v113 s114 =>
 evLen tbx 9 v107 fun v115 => evBin2 tbx .add 3 v105 v115 fun v116 =>
 kk83 (v101, v103, v116, v109, v111, v113, ()) h n) fun kk100 =>
 evLen tbx 9 v98 fun v117 => evBin2 tbx .sub 3 (.i .i64 9223372036854775807) v73 fun v118 => evBin2 tbx .gtr 3 v117 v118 fun v119 =>
 brB v119 (
 none) (
 kk100 (v69, v71, v73, v98, v75, v77, v79, ()) h n)) (
 kk18 (v69, v71, v73, ()) h n)) fu (v10, v12, v14, v10, v16, (.i .i64 0), ()) h n) fun kk9 =>
 evLen tbx 9 v6 fun v120 => evBin2 tbx .gtr 3 v120 (.i .i64 0) fun v121 =>
 brB v121 (
 jp (fun (s122 : VT [0, 1, 5]) h n => pc s122 fun v124 s125 => pc s125 fun v126 s127 => pc s127 fun v128 s129 =>
 evLen tbx 9 v126 fun v130 =>
 evLen tbx 71 v124 fun v131 => evBin2 tbx .sub 3 v131 (.i .i64 1) fun v132 => evBin2 tbx .mul 3 v130 v132 fun v133 => evBin2 tbx .add 3 v128 v133 fun v134 =>
 kk9 (v124, v126, v134, ()) h n) fun kk123 =>
 evLen tbx 9 v6 fun v135 =>
 evLen tbx 71 v4 fun v136 => evBin2 tbx .sub 3 v136 (.i .i64 1) fun v137 => evBin2 tbx .quo 3 (.i .i64 9223372036854775807) v137 fun v138 => evBin2 tbx .geq 3 v135 v138 fun v139 =>
 brB v139 (
 none) (
 kk123 (v4, v6, (.i .i64 0), ()) h n)) (
 kk9 (v4, v6, (.i .i64 0), ()) h n)) fun kk3 => evBin2 tbx .eql 3 v1 (.i .i64 0) fun v140 =>
 brB v140 (
 k (.s 0 0) h n) ( evBin2 tbx .eql 3 v1 (.i .i64 1) fun v141 =>
 brB v141 ( evIa tbx 71 a0 (.i .i64 0) fun v142 => evLoad tbx 9 v142 h fun v143 =>
 k v143 h n) (
 kk3 (a0, a1, ()) h n))
noncomputable def e296 : FE := ⟨Tryz.f296, bd Tryz.f296, [0, 1], [4], (.q .z (.q (.q .z (.b [0, 1] (.q .z (.c (.q .z .z) (.q .z (.c (.q .z .z) .z)))))) (.q .z (.s [0, 1, 5] (.q .z (.c (.s [0, 1, 5] (.q .z (.c .z .z)) .z) .z)) (.q (.q .z (.b [0, 1, 5] (.l [0, 1, 5, 39, 40, 41] (.q .z (.q (.c .z .z) (.q (.b [0, 1, 5, 39, 40, 41] (.q .z (.s [0, 1, 5, 7, 39, 40, 41] (.q .z (.c .z .z)) .z))) .z)))))) (.q .z (.q .z (.q .z (.q (.q .z (.b [8] (.l [1, 8, 63, 64, 65] (.q .z (.q (.c .z .z) (.q (.b [1, 8, 63, 64, 65] (.q .z (.q .z .z))) .z)))))) (.q .z .z))))))))))⟩
theorem q296 (fu : Nat) (cf : CF) (a0 a1 : V) (h : H) (n : Id) (k : KV) : evF fu cf e296 [a0, a1] h n k = s296 fu cf a0 a1 h n k := by kernel_rfl
theorem p296 : PfOk Tryz.prog tbx mtab 296 (w2 (s296 fuX)) := pfo e296 Tryz.func296 (by kernel_rfl) (w2_ok (q296 fuX))
noncomputable def s297 (fu : Nat) (cf : CF) (a0 : V) (h : H) (n : Id) (k : KV) : R :=
 cf 60 [a0, (.s 2 9339)] h n fun v1 h n =>
 k v1 h n
noncomputable def e297 : FE := ⟨Tryz.f297, bd Tryz.f297, [0], [2], (.q .z (.q .z .z))⟩
theorem q297 (fu : Nat) (cf : CF) (a0 : V) (h : H) (n : Id) (k : KV) : evF fu cf e297 [a0] h n k = s297 fu cf a0 h n k := by kernel_rfl
theorem p297 : PfOk Tryz.prog tbx mtab 297 (w1 (s297 fuX)) := pfo e297 Tryz.func297 (by kernel_rfl) (w1_ok (q297 fuX))
noncomputable def s298 (fu : Nat) (cf : CF) (a0 a1 : V) (h : H) (n : Id) (k : KV) : R :=
 evLen tbx 328 a0 fun v1 =>
 jp (fun (s2 : VT []) h n =>
 k (.i .i64 (-1)) h n) fun kk3 =>
 lpC [0, 1, 7, 8] (fun lo5 s4 h n => pc s4 fun v6 s7 => pc s7 fun v8 s9 => pc s9 fun v10 s11 => pc s11 fun v12 s13 => evBin2 tbx .lss 3 v12 v10 fun v14 =>
 brB v14 (
 jp (fun (s15 : VT [0, 1, 7, 8]) h n => pc s15 fun v17 s18 => pc s18 fun v19 s20 => pc s20 fun v21 s22 => pc s22 fun v23 s24 => evBin2 tbx .add 3 v23 (.i .i64 1) fun v25 =>
 lo5 (v17, v19, v21, v25, ()) h n) fun kk16 => evIa tbx 328 v6 v12 fun v26 => evLoad tbx 327 v26 h fun v27 =>
 evCall cf v8 [v27] h n fun v28 h n =>
 brB v28 (
 k v12 h n) (
 kk16 (v6, v8, v10, v12, ()) h n)) (
 kk3 (()) h n)) fu (a0, a1, v1, (.i .i64 0), ()) h n
noncomputable def e298 : FE := ⟨Tryz.f298, bd Tryz.f298, [0, 1], [4], (.q .z (.q (.q .z (.b [] (.l [0, 1, 7, 8] (.q .z (.q (.c .z .z) (.q (.b [0, 1, 7, 8] (.q .z (.q .z (.c (.q .z .z) .z)))) .z)))))) (.q .z .z)))⟩
theorem q298 (fu : Nat) (cf : CF) (a0 a1 : V) (h : H) (n : Id) (k : KV) : evF fu cf e298 [a0, a1] h n k = s298 fu cf a0 a1 h n k := by kernel_rfl
theorem p298 : PfOk Tryz.prog tbx mtab 298 (w2 (s298 fuX)) := pfo e298 Tryz.func298 (by kernel_rfl) (w2_ok (q298 fuX))
noncomputable def s299 (fu : Nat) (cf : CF) (a0 a1 : V) (h : H) (n : Id) (k : KV) : R :=
 evBox a0 h n fun v1 h n =>
 evBuildSl tbx 71 5 [(0, (.s 0 0)), (1, (.s 7 27988538522430565)), (2, (.s 7 32217264604933477)), (3, (.s 8 8102661233957954916)), (4, (.s 4 1952805748))] h n fun v2 h n => evFa tbx 51 5 v1 fun v3 => evLoad tbx 9 v3 h fun v4 =>
 cf 321 [v2, v4] h n fun v5 h n =>
 jp (fun (v6 : V) h n =>
 jp (fun (v8 : V) h n =>
 jp (fun (v10 : V) h n =>
 jp (fun (v12 : V) h n =>
 jp (fun (v14 : V) h n =>
 jp (fun (v16 : V) h n =>
 jp (fun (v18 : V) h n =>
 jp (fun (v20 : V) h n =>
 jp (fun (v22 : V) h n =>
 jp (fun (v24 : V) h n => evPick v5 (.b true) v24 fun v26 =>
 k v26 h n) fun kk25 =>
 gdB v5 false ((evPick v16 v22 (.b false) fun v => kk25 v h n)) (kk25 (.tp []) h n)) fun kk23 =>
 gdB v16 true ((evBin2 tbx .eql 9 v20 (.s 3 7368557) fun v => kk23 v h n)) (kk23 (.tp []) h n)) fun kk21 =>
 gdB v16 true ((evLoad tbx 9 v18 h fun v => kk21 v h n)) (kk21 (.tp []) h n)) fun kk19 =>
 gdB v16 true ((evFa tbx 51 3 v1 fun v => kk19 v h n)) (kk19 (.tp []) h n)) fun kk17 =>
 gdB v5 false (kk17 v14 h n) (kk17 (.tp []) h n)) fun kk15 =>
 gdB v5 false ((evPick v8 v12 (.b false) fun v => kk15 v h n)) (kk15 (.tp []) h n)) fun kk13 =>
 gdB v8 true ((cf 168 [v10] h n kk13)) (kk13 (.tp []) h n)) fun kk11 =>
 gdB v8 true ((evLoad tbx 51 v1 h fun v => kk11 v h n)) (kk11 (.tp []) h n)) fun kk9 =>
 gdB v5 false (kk9 v6 h n) (kk9 (.tp []) h n)) fun kk7 =>
 gdB v5 false (kk7 a1 h n) (kk7 (.tp []) h n)
noncomputable def e299 : FE := ⟨Tryz.f299, bd Tryz.f299, [0, 1], [4], (.q .z (.q .z .z))⟩
theorem q299 (fu : Nat) (cf : CF) (a0 a1 : V) (h : H) (n : Id) (k : KV) : evF fu cf e299 [a0, a1] h n k = s299 fu cf a0 a1 h n k := by kernel_rfl
theorem p299 : PfOk Tryz.prog tbx mtab 299 (w2 (s299 fuX)) := pfo e299 Tryz.func299 (by kernel_rfl) (w2_ok (q299 fuX))
noncomputable def s300 (fu : Nat) (cf : CF) (a0 : V) (h : H) (n : Id) (k : KV) : R :=
 evBox a0 h n fun v1 h n => evFa tbx 63 0 v1 fun v2 => evLoad tbx 9 v2 h fun v3 =>
 cf 301 [v3] h n fun v4 h n =>
 evUn .not v4 fun v5 =>
 jp (fun (v6 : V) h n =>
 jp (fun (v8 : V) h n =>
 jp (fun (v10 : V) h n =>
 jp (fun (v12 : V) h n => evPick v5 (.b true) v12 fun v14 =>
 k v14 h n) fun kk13 =>
 gdB v5 false ((evUn .not v10 fun v => kk13 v h n)) (kk13 (.tp []) h n)) fun kk11 =>
 gdB v5 false ((cf 301 [v8] h n kk11)) (kk11 (.tp []) h n)) fun kk9 =>
 gdB v5 false ((evLoad tbx 9 v6 h fun v => kk9 v h n)) (kk9 (.tp []) h n)) fun kk7 =>
 gdB v5 false ((evFa tbx 63 1 v1 fun v => kk7 v h n)) (kk7 (.tp []) h n)
noncomputable def e300 : FE := ⟨Tryz.f300, bd Tryz.f300, [0], [2], (.q .z (.q .z .z))⟩
theorem q300 (fu : Nat) (cf : CF) (a0 : V) (h : H) (n : Id) (k : KV) : evF fu cf e300 [a0] h n k = s300 fu cf a0 h n k := by kernel_rfl
theorem p300 : PfOk Tryz.prog tbx mtab 300 (w1 (s300 fuX)) := pfo e300 Tryz.func300 (by kernel_rfl) (w1_ok (q300 fuX))
noncomputable def s301 (fu : Nat) (cf : CF) (a0 : V) (h : H) (n : Id) (k : KV) : R :=
 evBin2 tbx .eql 9 a0 (.s 1 42) fun v1 =>
 jp (fun (v2 : V) h n =>
 jp (fun (v4 : V) h n => evPick v1 (.b true) v4 fun v6 =>
 k v6 h n) fun kk5 =>
 gdB v1 false ((cf 58 [v2] h n kk5)) (kk5 (.tp []) h n)) fun kk3 =>
 gdB v1 false (kk3 a0 h n) (kk3 (.tp []) h n)
noncomputable def e301 : FE := ⟨Tryz.f301, bd Tryz.f301, [0], [2], (.q .z (.q .z .z))⟩
theorem q301 (fu : Nat) (cf : CF) (a0 : V) (h : H) (n : Id) (k : KV) : evF fu cf e301 [a0] h n k = s301 fu cf a0 h n k := by kernel_rfl
theorem p301 : PfOk Tryz.prog tbx mtab 301 (w1 (s301 fuX)) := pfo e301 Tryz.func301 (by kernel_rfl) (w1_ok (q301 fuX))
noncomputable def s302 (fu : Nat) (cf : CF) (a0 a1 : V) (h : H) (n : Id) (k : KV) : R :=
 evBox a0 h n fun v1 h n =>
 jp (fun (s2 : VT []) h n =>
 k (.i .i64 0) h n) fun kk3 => evFa tbx 51 2 v1 fun v4 => evLoad tbx 9 v4 h fun v5 => evBin2 tbx .eql 9 v5 (.s 0 0) fun v6 =>
 brB v6 (
 brB a1 (
 k (.i .i64 11) h n) (
 k (.i .i64 0) h n)) ( evFa tbx 51 2 v1 fun v7 => evLoad tbx 9 v7 h fun v8 =>
 cf 114 [v8] h n fun v9 h n =>
 brB v9 (
 jp (fun (v10 : V) h n =>
 jp (fun (v12 : V) h n => evPick a1 v12 (.b false) fun v14 =>
 brB v14 (
 k (.i .i64 11) h n) ( evFa tbx 51 2 v1 fun v15 => evLoad tbx 9 v15 h fun v16 =>
 cf 115 [v16] h n fun v17 h n => evExt 0 v17 fun v18 => evExt 1 v17 fun v19 =>
 k v19 h n)) fun kk13 =>
 gdB a1 true ((cf 168 [v10] h n kk13)) (kk13 (.tp []) h n)) fun kk11 =>
 gdB a1 true ((evLoad tbx 51 v1 h fun v => kk11 v h n)) (kk11 (.tp []) h n)) ( evFa tbx 51 2 v1 fun v20 => evLoad tbx 9 v20 h fun v21 =>
 cf 59 [v21] h n fun v22 h n =>
 evUn .not v22 fun v23 =>
 jp (fun (v24 : V) h n =>
 jp (fun (v26 : V) h n =>
 jp (fun (v28 : V) h n => evPick v23 (.b true) v28 fun v30 =>
 brB v30 (
 k (.i .i64 11) h n) (
 kk3 (()) h n)) fun kk29 =>
 gdB v23 false ((cf 60 [v26, (.s 1 58)] h n kk29)) (kk29 (.tp []) h n)) fun kk27 =>
 gdB v23 false ((evLoad tbx 9 v24 h fun v => kk27 v h n)) (kk27 (.tp []) h n)) fun kk25 =>
 gdB v23 false ((evFa tbx 51 2 v1 fun v => kk25 v h n)) (kk25 (.tp []) h n)))
noncomputable def e302 : FE := ⟨Tryz.f302, bd Tryz.f302, [0, 1], [4], (.q .z (.q (.b [] (.q .z (.c (.q (.q .z (.c (.q .z .z) .z)) (.q .z .z)) (.q .z (.c (.q (.q .z (.c (.q .z .z) .z)) (.q .z (.q .z .z))) (.q .z (.c (.q .z .z) .z))))))) (.q .z .z)))⟩
theorem q302 (fu : Nat) (cf : CF) (a0 a1 : V) (h : H) (n : Id) (k : KV) : evF fu cf e302 [a0, a1] h n k = s302 fu cf a0 a1 h n k := by kernel_rfl
theorem p302 : PfOk Tryz.prog tbx mtab 302 (w2 (s302 fuX)) := pfo e302 Tryz.func302 (by kernel_rfl) (w2_ok (q302 fuX))
noncomputable def s312 (fu : Nat) (cf : CF) (a0 a1 a2 a3 : V) (h : H) (n : Id) (k : KV) : R :=
 evBin2 tbx .add 3 a1 (.i .i64 1) fun v1 =>
 jp (fun (s2 : VT []) h n =>
 k (.tp []) h n) fun kk3 =>
 lpC [0, 1, 2, 3, 8] (fun lo5 s4 h n => pc s4 fun v6 s7 => pc s7 fun v8 s9 => pc s9 fun v10 s11 => pc s11 fun v12 s13 => pc s13 fun v14 s15 => evBin2 tbx .lss 3 v14 v10 fun v16 =>
 brB v16 (
 jp (fun (s17 : VT [0, 1, 2, 3, 8]) h n => pc s17 fun v19 s20 => pc s20 fun v21 s22 => pc s22 fun v23 s24 => pc s24 fun v25 s26 => pc s26 fun v27 s28 => evBin2 tbx .add 3 v27 (.i .i64 1) fun v29 =>
 lo5 (v19, v21, v23, v25, v29, ()) h n) fun kk18 =>
 jp (fun (s30 : VT [0, 1, 2, 3, 8]) h n => pc s30 fun v32 s33 => pc s33 fun v34 s35 => pc s35 fun v36 s37 => pc s37 fun v38 s39 => pc s39 fun v40 s41 =>
 kk18 (v32, v34, v36, v38, v40, ()) h n) fun kk31 =>
 lpC [0, 1, 2, 3, 8, 9] (fun lo43 s42 h n => pc s42 fun v44 s45 => pc s45 fun v46 s47 => pc s47 fun v48 s49 => pc s49 fun v50 s51 => pc s51 fun v52 s53 => pc s53 fun v54 s55 => evBin2 tbx .gtr 3 v54 v46 fun v56 =>
 jp (fun (v57 : V) h n =>
 jp (fun (v59 : V) h n =>
 jp (fun (v61 : V) h n =>
 jp (fun (v63 : V) h n =>
 jp (fun (v65 : V) h n =>
 jp (fun (v67 : V) h n =>
 jp (fun (v69 : V) h n =>
 jp (fun (v71 : V) h n =>
 jp (fun (v73 : V) h n =>
 jp (fun (v75 : V) h n =>
 thenR (wsB (wV v56 true) (evLoad tbx 57 v63 h fun w77 => cond (eqV 6 w77 v65) (okR) none) (cond (eqV 2 v65 (.tp [])) okR none)) (
 thenR (wsB (wV v56 true) (evLoad tbx 57 v73 h fun w78 => cond (eqV 6 w78 v75) (okR) none) (cond (eqV 2 v75 (.tp [])) okR none)) (
 jp (fun (v79 : V) h n =>
 jp (fun (v81 : V) h n => evPick v56 v81 (.b false) fun v83 =>
 brB v83 (
 jp (fun (s84 : VT [0, 1, 2, 3, 8, 9]) h n => pc s84 fun v86 s87 => pc s87 fun v88 s89 => pc s89 fun v90 s91 => pc s91 fun v92 s93 => pc s93 fun v94 s95 => pc s95 fun v96 s97 => evBin2 tbx .sub 3 v96 (.i .i64 1) fun v98 =>
 lo43 (v86, v88, v90, v92, v94, v98, ()) h n) fun kk85 => evBin2 tbx .sub 3 v54 (.i .i64 1) fun v99 => evBin2 tbx .sub 3 v54 (.i .i64 1) fun v100 => evIa tbx 29 v44 v100 fun v101 => evLoad tbx 57 v101 h fun v102 => evIa tbx 29 v44 v54 fun v103 => evLoad tbx 57 v103 h fun v104 => evIa tbx 29 v44 v54 fun v105 => evLoad tbx 57 v101 h fun w108 => cond (eqV 6 w108 v102) ( evLoad tbx 57 v103 h fun w107 => cond (eqV 6 w107 v104) (
 evStore tbx 57 v105 v102 h n fun _ h n => evIa tbx 29 v44 v99 fun v106 =>
 evStore tbx 57 v106 v104 h n fun _ h n =>
 kk85 (v44, v46, v48, v50, v52, v54, ()) h n) none) none) (
 kk31 (v44, v46, v48, v50, v52, ()) h n)) fun kk82 =>
 wsB (wV v56 true) ((evBin2 tbx .lss 3 v79 (.i .i64 0) fun v => kk82 v h n)) (kk82 (.tp []) h n)) fun kk80 =>
 wsB (wV v56 true) ((evCall cf v57 [v65, v75] h n kk80)) (kk80 (.tp []) h n)))) fun kk76 =>
 wsB (wV v56 true) ((evLoad tbx 57 v73 h fun v => kk76 v h n)) (kk76 (.tp []) h n)) fun kk74 =>
 wsB (wV v56 true) ((evIa tbx 29 v67 v71 fun v => kk74 v h n)) (kk74 (.tp []) h n)) fun kk72 =>
 wsB (wV v56 true) ((evBin2 tbx .sub 3 v69 (.i .i64 1) fun v => kk72 v h n)) (kk72 (.tp []) h n)) fun kk70 =>
 wsB (wV v56 true) (kk70 v54 h n) (kk70 (.tp []) h n)) fun kk68 =>
 wsB (wV v56 true) (kk68 v44 h n) (kk68 (.tp []) h n)) fun kk66 =>
 wsB (wV v56 true) ((evLoad tbx 57 v63 h fun v => kk66 v h n)) (kk66 (.tp []) h n)) fun kk64 =>
 wsB (wV v56 true) ((evIa tbx 29 v59 v61 fun v => kk64 v h n)) (kk64 (.tp []) h n)) fun kk62 =>
 wsB (wV v56 true) (kk62 v54 h n) (kk62 (.tp []) h n)) fun kk60 =>
 wsB (wV v56 true) (kk60 v44 h n) (kk60 (.tp []) h n)) fun kk58 =>
 wsB (wV v56 true) (kk58 v50 h n) (kk58 (.tp []) h n)) fu (v6, v8, v10, v12, v14, v14, ()) h n) (
 kk3 (()) h n)) fu (a0, a1, a2, a3, v1, ()) h n
noncomputable def e312 : FE := ⟨Tryz.f312, bd Tryz.f312, [0, 1, 2, 3], [], (.q .z (.b [] (.l [0, 1, 2, 3, 8] (.q (.q .z (.c .z .z)) (.q (.b [0, 1, 2, 3, 8] (.q .z (.b [0, 1, 2, 3, 8] (.l [0, 1, 2, 3, 8, 9] (.q (.q .z (.c .z .z)) (.q (.b [0, 1, 2, 3, 8, 9] .z) .z)))))) .z)))))⟩
theorem q312 (fu : Nat) (cf : CF) (a0 a1 a2 a3 : V) (h : H) (n : Id) (k : KV) : evF fu cf e312 [a0, a1, a2, a3] h n k = s312 fu cf a0 a1 a2 a3 h n k := by kernel_rfl
theorem p312 : PfOk Tryz.prog tbx mtab 312 (w4 (s312 fuX)) := pfo e312 Tryz.func312 (by kernel_rfl) (w4_ok (q312 fuX))
noncomputable def s315 (fu : Nat) (cf : CF) (a0 a1 a2 a3 : V) (h : H) (n : Id) (k : KV) : R :=
 evBin2 tbx .sub 3 a2 a1 fun v1 =>
 evAlloc tbx 3 h n fun v2 h n => evBin2 tbx .quo 3 v1 (.i .i64 4) fun v3 => evBin2 tbx .mul 3 v3 (.i .i64 1) fun v4 => evBin2 tbx .add 3 a1 v4 fun v5 => evBin2 tbx .quo 3 v1 (.i .i64 4) fun v6 => evBin2 tbx .mul 3 v6 (.i .i64 2) fun v7 => evBin2 tbx .add 3 a1 v7 fun v8 => evBin2 tbx .quo 3 v1 (.i .i64 4) fun v9 => evBin2 tbx .mul 3 v9 (.i .i64 3) fun v10 => evBin2 tbx .add 3 a1 v10 fun v11 =>
 jp (fun (s12 : VT [11, 13]) h n => pc s12 fun v14 s15 => pc s15 fun v16 s17 => evLoad tbx 3 v14 h fun v18 =>
 jp (fun (s19 : VT [8, 9]) h n => pc s19 fun v21 s22 => pc s22 fun v23 s24 =>
 k (.tp [v21, v23]) h n) fun kk20 => evBin2 tbx .eql 3 v18 (.i .i64 0) fun v25 =>
 brB v25 (
 k (.tp [v16, (.i .i64 1)]) h n) ( evBin2 tbx .eql 3 v18 (.i .i64 12) fun v26 =>
 brB v26 (
 k (.tp [v16, (.i .i64 2)]) h n) (
 k (.tp [v16, (.i .i64 0)]) h n))) fun kk13 => evBin2 tbx .geq 3 v1 (.i .i64 8) fun v27 =>
 brB v27 (
 jp (fun (s28 : VT [0, 3, 11, 12, 13, 14]) h n => pc s28 fun v30 s31 => pc s31 fun v32 s33 => pc s33 fun v34 s35 => pc s35 fun v36 s37 => pc s37 fun v38 s39 => pc s39 fun v40 s41 =>
 cf 328 [v30, v36, v38, v40, v34, v32] h n fun v42 h n =>
 kk13 (v34, v42, ()) h n) fun kk29 => evBin2 tbx .geq 3 v1 (.i .i64 50) fun v43 =>
 brB v43 (
 cf 327 [a0, v5, v2, a3] h n fun v44 h n =>
 cf 327 [a0, v8, v2, a3] h n fun v45 h n =>
 cf 327 [a0, v11, v2, a3] h n fun v46 h n =>
 kk29 (a0, a3, v2, v44, v45, v46, ()) h n) (
 kk29 (a0, a3, v2, v5, v8, v11, ()) h n)) (
 kk13 (v2, v8, ()) h n)
noncomputable def e315 : FE := ⟨Tryz.f315, bd Tryz.f315, [0, 1, 2, 3], [8, 9], (.q .z (.q .z (.q .z (.q .z (.q .z (.q .z (.s [11, 13] (.q .z (.c (.s [0, 3, 11, 12, 13, 14] (.q .z (.c (.q .z (.q .z .z)) .z)) .z) .z)) (.q .z (.b [8, 9] (.q .z (.c (.q .z .z) (.q .z (.c (.q .z .z) (.q .z .z))))))))))))))⟩
theorem q315 (fu : Nat) (cf : CF) (a0 a1 a2 a3 : V) (h : H) (n : Id) (k : KV) : evF fu cf e315 [a0, a1, a2, a3] h n k = s315 fu cf a0 a1 a2 a3 h n k := by kernel_rfl
theorem p315 : PfOk Tryz.prog tbx mtab 315 (w4 (s315 fuX)) := pfo e315 Tryz.func315 (by kernel_rfl) (w4_ok (q315 fuX))
noncomputable def s317 (fu : Nat) (cf : CF) (a0 a1 a2 a3 : V) (h : H) (n : Id) (k : KV) : R :=
 evBin2 tbx .add 3 a1 (.i .i64 1) fun v1 =>
 jp (fun (s2 : VT []) h n =>
 k (.b false) h n) fun kk3 =>
 lpC [0, 1, 2, 3, 9, 10] (fun lo5 s4 h n => pc s4 fun v6 s7 => pc s7 fun v8 s9 => pc s9 fun v10 s11 => pc s11 fun v12 s13 => pc s13 fun v14 s15 => pc s15 fun v16 s17 => evBin2 tbx .lss 3 v16 (.i .i64 5) fun v18 =>
 brB v18 (
 jp (fun (s19 : VT [0, 1, 2, 3, 9, 10]) h n => pc s19 fun v21 s22 => pc s22 fun v23 s24 => pc s24 fun v25 s26 => pc s26 fun v27 s28 => pc s28 fun v29 s30 => pc s30 fun v31 s32 => evBin2 tbx .add 3 v31 (.i .i64 1) fun v33 =>
 lo5 (v21, v23, v25, v27, v29, v33, ()) h n) fun kk20 =>
 jp (fun (s34 : VT [0, 1, 2, 3, 9, 10]) h n => pc s34 fun v36 s37 => pc s37 fun v38 s39 => pc s39 fun v40 s41 => pc s41 fun v42 s43 => pc s43 fun v44 s45 => pc s45 fun v46 s47 => evBin2 tbx .eql 3 v44 v40 fun v48 =>
 brB v48 (
 k (.b true) h n) ( evBin2 tbx .sub 3 v40 v38 fun v49 => evBin2 tbx .lss 3 v49 (.i .i64 50) fun v50 =>
 brB v50 (
 k (.b false) h n) ( evBin2 tbx .sub 3 v44 (.i .i64 1) fun v51 => evBin2 tbx .sub 3 v44 (.i .i64 1) fun v52 => evIa tbx 29 v36 v52 fun v53 => evLoad tbx 57 v53 h fun v54 => evIa tbx 29 v36 v44 fun v55 => evLoad tbx 57 v55 h fun v56 => evIa tbx 29 v36 v44 fun v57 => evLoad tbx 57 v53 h fun w216 => cond (eqV 6 w216 v54) ( evLoad tbx 57 v55 h fun w215 => cond (eqV 6 w215 v56) (
 evStore tbx 57 v57 v54 h n fun _ h n => evIa tbx 29 v36 v51 fun v58 =>
 evStore tbx 57 v58 v56 h n fun _ h n =>
 jp (fun (s59 : VT [0, 1, 2, 3, 9, 10]) h n => pc s59 fun v61 s62 => pc s62 fun v63 s64 => pc s64 fun v65 s66 => pc s66 fun v67 s68 => pc s68 fun v69 s70 => pc s70 fun v71 s72 => evBin2 tbx .sub 3 v65 v69 fun v73 => evBin2 tbx .geq 3 v73 (.i .i64 2) fun v74 =>
 brB v74 ( evBin2 tbx .add 3 v69 (.i .i64 1) fun v75 =>
 jp (fun (s76 : VT [0, 1, 2, 3, 9, 10]) h n => pc s76 fun v78 s79 => pc s79 fun v80 s81 => pc s81 fun v82 s83 => pc s83 fun v84 s85 => pc s85 fun v86 s87 => pc s87 fun v88 s89 =>
 kk20 (v78, v80, v82, v84, v86, v88, ()) h n) fun kk77 =>
 lpC [0, 1, 2, 3, 9, 10, 12] (fun lo91 s90 h n => pc s90 fun v92 s93 => pc s93 fun v94 s95 => pc s95 fun v96 s97 => pc s97 fun v98 s99 => pc s99 fun v100 s101 => pc s101 fun v102 s103 => pc s103 fun v104 s105 => evBin2 tbx .lss 3 v104 v96 fun v106 =>
 brB v106 (
 jp (fun (s107 : VT [0, 1, 2, 3, 9, 10, 12]) h n => pc s107 fun v109 s110 => pc s110 fun v111 s112 => pc s112 fun v113 s114 => pc s114 fun v115 s116 => pc s116 fun v117 s118 => pc s118 fun v119 s120 => pc s120 fun v121 s122 => evBin2 tbx .add 3 v121 (.i .i64 1) fun v123 =>
 lo91 (v109, v111, v113, v115, v117, v119, v123, ()) h n) fun kk108 => evIa tbx 29 v92 v104 fun v124 => evLoad tbx 57 v124 h fun v125 => evBin2 tbx .sub 3 v104 (.i .i64 1) fun v126 => evIa tbx 29 v92 v126 fun v127 => evLoad tbx 57 v127 h fun v128 => evLoad tbx 57 v124 h fun w143 => cond (eqV 6 w143 v125) ( evLoad tbx 57 v127 h fun w142 => cond (eqV 6 w142 v128) (
 evCall cf v98 [v125, v128] h n fun v129 h n => evBin2 tbx .lss 3 v129 (.i .i64 0) fun v130 =>
 evUn .not v130 fun v131 =>
 brB v131 (
 kk77 (v92, v94, v96, v98, v100, v102, ()) h n) ( evBin2 tbx .sub 3 v104 (.i .i64 1) fun v132 => evBin2 tbx .sub 3 v104 (.i .i64 1) fun v133 => evIa tbx 29 v92 v133 fun v134 => evLoad tbx 57 v134 h fun v135 => evIa tbx 29 v92 v104 fun v136 => evLoad tbx 57 v136 h fun v137 => evIa tbx 29 v92 v104 fun v138 => evLoad tbx 57 v134 h fun w141 => cond (eqV 6 w141 v135) ( evLoad tbx 57 v136 h fun w140 => cond (eqV 6 w140 v137) (
 evStore tbx 57 v138 v135 h n fun _ h n => evIa tbx 29 v92 v132 fun v139 =>
 evStore tbx 57 v139 v137 h n fun _ h n =>
 kk108 (v92, v94, v96, v98, v100, v102, v104, ()) h n) none) none)) none) none) (
 kk77 (v92, v94, v96, v98, v100, v102, ()) h n)) fu (v61, v63, v65, v67, v69, v71, v75, ()) h n) (
 kk20 (v61, v63, v65, v67, v69, v71, ()) h n)) fun kk60 => evBin2 tbx .sub 3 v44 v38 fun v144 => evBin2 tbx .geq 3 v144 (.i .i64 2) fun v145 =>
 brB v145 ( evBin2 tbx .sub 3 v44 (.i .i64 1) fun v146 =>
 jp (fun (s147 : VT [0, 1, 2, 3, 9, 10]) h n => pc s147 fun v149 s150 => pc s150 fun v151 s152 => pc s152 fun v153 s154 => pc s154 fun v155 s156 => pc s156 fun v157 s158 => pc s158 fun v159 s160 =>
 kk60 (v149, v151, v153, v155, v157, v159, ()) h n) fun kk148 =>
 lpC [0, 1, 2, 3, 9, 10, 11] (fun lo162 s161 h n => pc s161 fun v163 s164 => pc s164 fun v165 s166 => pc s166 fun v167 s168 => pc s168 fun v169 s170 => pc s170 fun v171 s172 => pc s172 fun v173 s174 => pc s174 fun v175 s176 => evBin2 tbx .geq 3 v175 (.i .i64 1) fun v177 =>
 brB v177 (
 jp (fun (s178 : VT [0, 1, 2, 3, 9, 10, 11]) h n => pc s178 fun v180 s181 => pc s181 fun v182 s183 => pc s183 fun v184 s185 => pc s185 fun v186 s187 => pc s187 fun v188 s189 => pc s189 fun v190 s191 => pc s191 fun v192 s193 => evBin2 tbx .sub 3 v192 (.i .i64 1) fun v194 =>
 lo162 (v180, v182, v184, v186, v188, v190, v194, ()) h n) fun kk179 => evIa tbx 29 v163 v175 fun v195 => evLoad tbx 57 v195 h fun v196 => evBin2 tbx .sub 3 v175 (.i .i64 1) fun v197 => evIa tbx 29 v163 v197 fun v198 => evLoad tbx 57 v198 h fun v199 => evLoad tbx 57 v195 h fun w214 => cond (eqV 6 w214 v196) ( evLoad tbx 57 v198 h fun w213 => cond (eqV 6 w213 v199) (
 evCall cf v169 [v196, v199] h n fun v200 h n => evBin2 tbx .lss 3 v200 (.i .i64 0) fun v201 =>
 evUn .not v201 fun v202 =>
 brB v202 (
 kk148 (v163, v165, v167, v169, v171, v173, ()) h n) ( evBin2 tbx .sub 3 v175 (.i .i64 1) fun v203 => evBin2 tbx .sub 3 v175 (.i .i64 1) fun v204 => evIa tbx 29 v163 v204 fun v205 => evLoad tbx 57 v205 h fun v206 => evIa tbx 29 v163 v175 fun v207 => evLoad tbx 57 v207 h fun v208 => evIa tbx 29 v163 v175 fun v209 => evLoad tbx 57 v205 h fun w212 => cond (eqV 6 w212 v206) ( evLoad tbx 57 v207 h fun w211 => cond (eqV 6 w211 v208) (
 evStore tbx 57 v209 v206 h n fun _ h n => evIa tbx 29 v163 v203 fun v210 =>
 evStore tbx 57 v210 v208 h n fun _ h n =>
 kk179 (v163, v165, v167, v169, v171, v173, v175, ()) h n) none) none)) none) none) (
 kk148 (v163, v165, v167, v169, v171, v173, ()) h n)) fu (v36, v38, v40, v42, v44, v46, v146, ()) h n) (
 kk60 (v36, v38, v40, v42, v44, v46, ()) h n)) none) none))) fun kk35 =>
 lpC [0, 1, 2, 3, 9, 10] (fun lo218 s217 h n => pc s217 fun v219 s220 => pc s220 fun v221 s222 => pc s222 fun v223 s224 => pc s224 fun v225 s226 => pc s226 fun v227 s228 => pc s228 fun v229 s230 => evBin2 tbx .lss 3 v227 v223 fun v231 =>
 jp (fun (v232 : V) h n =>
 jp (fun (v234 : V) h n =>
 jp (fun (v236 : V) h n =>
 jp (fun (v238 : V) h n =>
 jp (fun (v240 : V) h n =>
 jp (fun (v242 : V) h n =>
 jp (fun (v244 : V) h n =>
 jp (fun (v246 : V) h n =>
 jp (fun (v248 : V) h n =>
 jp (fun (v250 : V) h n =>
 thenR (wsB (wV v231 true) (evLoad tbx 57 v238 h fun w252 => cond (eqV 6 w252 v240) (okR) none) (cond (eqV 2 v240 (.tp [])) okR none)) (
 thenR (wsB (wV v231 true) (evLoad tbx 57 v248 h fun w253 => cond (eqV 6 w253 v250) (okR) none) (cond (eqV 2 v250 (.tp [])) okR none)) (
 jp (fun (v254 : V) h n =>
 jp (fun (v256 : V) h n =>
 jp (fun (v258 : V) h n => evPick v231 v258 (.b false) fun v260 =>
 brB v260 (
 jp (fun (s261 : VT [0, 1, 2, 3, 9, 10]) h n => pc s261 fun v263 s264 => pc s264 fun v265 s266 => pc s266 fun v267 s268 => pc s268 fun v269 s270 => pc s270 fun v271 s272 => pc s272 fun v273 s274 =>
 lo218 (v263, v265, v267, v269, v271, v273, ()) h n) fun kk262 => evBin2 tbx .add 3 v227 (.i .i64 1) fun v275 =>
 kk262 (v219, v221, v223, v225, v275, v229, ()) h n) (
 kk35 (v219, v221, v223, v225, v227, v229, ()) h n)) fun kk259 =>
 wsB (wV v231 true) ((evUn .not v256 fun v => kk259 v h n)) (kk259 (.tp []) h n)) fun kk257 =>
 wsB (wV v231 true) ((evBin2 tbx .lss 3 v254 (.i .i64 0) fun v => kk257 v h n)) (kk257 (.tp []) h n)) fun kk255 =>
 wsB (wV v231 true) ((evCall cf v232 [v240, v250] h n kk255)) (kk255 (.tp []) h n)))) fun kk251 =>
 wsB (wV v231 true) ((evLoad tbx 57 v248 h fun v => kk251 v h n)) (kk251 (.tp []) h n)) fun kk249 =>
 wsB (wV v231 true) ((evIa tbx 29 v242 v246 fun v => kk249 v h n)) (kk249 (.tp []) h n)) fun kk247 =>
 wsB (wV v231 true) ((evBin2 tbx .sub 3 v244 (.i .i64 1) fun v => kk247 v h n)) (kk247 (.tp []) h n)) fun kk245 =>
 wsB (wV v231 true) (kk245 v227 h n) (kk245 (.tp []) h n)) fun kk243 =>
 wsB (wV v231 true) (kk243 v219 h n) (kk243 (.tp []) h n)) fun kk241 =>
 wsB (wV v231 true) ((evLoad tbx 57 v238 h fun v => kk241 v h n)) (kk241 (.tp []) h n)) fun kk239 =>
 wsB (wV v231 true) ((evIa tbx 29 v234 v236 fun v => kk239 v h n)) (kk239 (.tp []) h n)) fun kk237 =>
 wsB (wV v231 true) (kk237 v227 h n) (kk237 (.tp []) h n)) fun kk235 =>
 wsB (wV v231 true) (kk235 v219 h n) (kk235 (.tp []) h n)) fun kk233 =>
 wsB (wV v231 true) (kk233 v225 h n) (kk233 (.tp []) h n)) fu (v6, v8, v10, v12, v14, v16, ()) h n) (
 kk3 (()) h n)) fu (a0, a1, a2, a3, v1, (.i .i64 0), ()) h n
noncomputable def e317 : FE := ⟨Tryz.f317, bd Tryz.f317, [0, 1, 2, 3], [8], (.q .z (.q .z (.q (.q .z (.b [] (.l [0, 1, 2, 3, 9, 10] (.q (.q .z (.c .z .z)) (.q (.b [0, 1, 2, 3, 9, 10] (.q (.b [0, 1, 2, 3, 9, 10] (.l [0, 1, 2, 3, 9, 10] (.q (.q .z (.c .z .z)) (.b [0, 1, 2, 3, 9, 10] .z)))) (.q (.q .z (.c (.q .z .z) .z)) (.q (.q .z (.c (.q .z .z) .z)) (.q .z (.s [0, 1, 2, 3, 9, 10] (.q .z (.c (.q .z (.b [0, 1, 2, 3, 9, 10] (.l [0, 1, 2, 3, 9, 10, 11] (.q (.q .z (.c .z .z)) (.q (.b [0, 1, 2, 3, 9, 10, 11] (.q (.q .z (.c .z .z)) .z)) .z))))) .z)) (.q .z (.c (.q .z (.b [0, 1, 2, 3, 9, 10] (.l [0, 1, 2, 3, 9, 10, 12] (.q (.q .z (.c .z .z)) (.q (.b [0, 1, 2, 3, 9, 10, 12] (.q (.q .z (.c .z .z)) .z)) .z))))) .z)))))))) .z))))) (.q .z .z))))⟩
theorem q317 (fu : Nat) (cf : CF) (a0 a1 a2 a3 : V) (h : H) (n : Id) (k : KV) : evF fu cf e317 [a0, a1, a2, a3] h n k = s317 fu cf a0 a1 a2 a3 h n k := by kernel_rfl
theorem p317 : PfOk Tryz.prog tbx mtab 317 (w4 (s317 fuX)) := pfo e317 Tryz.func317 (by kernel_rfl) (w4_ok (q317 fuX))
noncomputable def s319 (fu : Nat) (cf : CF) (a0 a1 a2 a3 a4 : V) (h : H) (n : Id) (k : KV) : R :=
 evIa tbx 29 a0 a3 fun v1 => evLoad tbx 57 v1 h fun v2 => evIa tbx 29 a0 a1 fun v3 => evLoad tbx 57 v3 h fun v4 => evIa tbx 29 a0 a1 fun v5 => evLoad tbx 57 v1 h fun w336 => cond (eqV 6 w336 v2) ( evLoad tbx 57 v3 h fun w335 => cond (eqV 6 w335 v4) (
 evStore tbx 57 v5 v2 h n fun _ h n => evIa tbx 29 a0 a3 fun v6 =>
 evStore tbx 57 v6 v4 h n fun _ h n => evBin2 tbx .add 3 a1 (.i .i64 1) fun v7 => evBin2 tbx .sub 3 a2 (.i .i64 1) fun v8 =>
 jp (fun (s9 : VT [0, 1, 4, 12, 13]) h n => pc s9 fun v11 s12 => pc s12 fun v13 s14 => pc s14 fun v15 s16 => pc s16 fun v17 s18 => pc s18 fun v19 s20 =>
 jp (fun (s21 : VT [0, 1, 4, 12, 13]) h n => pc s21 fun v23 s24 => pc s24 fun v25 s26 => pc s26 fun v27 s28 => pc s28 fun v29 s30 => pc s30 fun v31 s32 => evBin2 tbx .gtr 3 v29 v31 fun v33 =>
 brB v33 ( evIa tbx 29 v23 v25 fun v34 => evLoad tbx 57 v34 h fun v35 => evIa tbx 29 v23 v31 fun v36 => evLoad tbx 57 v36 h fun v37 => evIa tbx 29 v23 v31 fun v38 => evLoad tbx 57 v34 h fun w41 => cond (eqV 6 w41 v35) ( evLoad tbx 57 v36 h fun w40 => cond (eqV 6 w40 v37) (
 evStore tbx 57 v38 v35 h n fun _ h n => evIa tbx 29 v23 v25 fun v39 =>
 evStore tbx 57 v39 v37 h n fun _ h n =>
 k (.tp [v31, (.b true)]) h n) none) none) ( evIa tbx 29 v23 v31 fun v42 => evLoad tbx 57 v42 h fun v43 => evIa tbx 29 v23 v29 fun v44 => evLoad tbx 57 v44 h fun v45 => evIa tbx 29 v23 v29 fun v46 => evLoad tbx 57 v42 h fun w230 => cond (eqV 6 w230 v43) ( evLoad tbx 57 v44 h fun w229 => cond (eqV 6 w229 v45) (
 evStore tbx 57 v46 v43 h n fun _ h n => evIa tbx 29 v23 v31 fun v47 =>
 evStore tbx 57 v47 v45 h n fun _ h n => evBin2 tbx .add 3 v29 (.i .i64 1) fun v48 => evBin2 tbx .sub 3 v31 (.i .i64 1) fun v49 =>
 jp (fun (s50 : VT [0, 1, 13]) h n => pc s50 fun v52 s53 => pc s53 fun v54 s55 => pc s55 fun v56 s57 => evIa tbx 29 v52 v54 fun v58 => evLoad tbx 57 v58 h fun v59 => evIa tbx 29 v52 v56 fun v60 => evLoad tbx 57 v60 h fun v61 => evIa tbx 29 v52 v56 fun v62 => evLoad tbx 57 v58 h fun w65 => cond (eqV 6 w65 v59) ( evLoad tbx 57 v60 h fun w64 => cond (eqV 6 w64 v61) (
 evStore tbx 57 v62 v59 h n fun _ h n => evIa tbx 29 v52 v54 fun v63 =>
 evStore tbx 57 v63 v61 h n fun _ h n =>
 k (.tp [v56, (.b false)]) h n) none) none) fun kk51 =>
 lpC [0, 1, 4, 12, 13] (fun lo67 s66 h n => pc s66 fun v68 s69 => pc s69 fun v70 s71 => pc s71 fun v72 s73 => pc s73 fun v74 s75 => pc s75 fun v76 s77 =>
 jp (fun (s78 : VT [0, 1, 4, 12, 13]) h n => pc s78 fun v80 s81 => pc s81 fun v82 s83 => pc s83 fun v84 s85 => pc s85 fun v86 s87 => pc s87 fun v88 s89 =>
 lo67 (v80, v82, v84, v86, v88, ()) h n) fun kk79 =>
 jp (fun (s90 : VT [0, 1, 4, 12, 13]) h n => pc s90 fun v92 s93 => pc s93 fun v94 s95 => pc s95 fun v96 s97 => pc s97 fun v98 s99 => pc s99 fun v100 s101 =>
 jp (fun (s102 : VT [0, 1, 4, 12, 13]) h n => pc s102 fun v104 s105 => pc s105 fun v106 s107 => pc s107 fun v108 s109 => pc s109 fun v110 s111 => pc s111 fun v112 s113 => evBin2 tbx .gtr 3 v110 v112 fun v114 =>
 brB v114 (
 kk51 (v104, v106, v112, ()) h n) ( evIa tbx 29 v104 v112 fun v115 => evLoad tbx 57 v115 h fun v116 => evIa tbx 29 v104 v110 fun v117 => evLoad tbx 57 v117 h fun v118 => evIa tbx 29 v104 v110 fun v119 => evLoad tbx 57 v115 h fun w124 => cond (eqV 6 w124 v116) ( evLoad tbx 57 v117 h fun w123 => cond (eqV 6 w123 v118) (
 evStore tbx 57 v119 v116 h n fun _ h n => evIa tbx 29 v104 v112 fun v120 =>
 evStore tbx 57 v120 v118 h n fun _ h n => evBin2 tbx .add 3 v110 (.i .i64 1) fun v121 => evBin2 tbx .sub 3 v112 (.i .i64 1) fun v122 =>
 kk79 (v104, v106, v108, v121, v122, ()) h n) none) none)) fun kk103 =>
 lpC [0, 1, 4, 12, 13] (fun lo126 s125 h n => pc s125 fun v127 s128 => pc s128 fun v129 s130 => pc s130 fun v131 s132 => pc s132 fun v133 s134 => pc s134 fun v135 s136 => evBin2 tbx .leq 3 v133 v135 fun v137 =>
 jp (fun (v138 : V) h n =>
 jp (fun (v140 : V) h n =>
 jp (fun (v142 : V) h n =>
 jp (fun (v144 : V) h n =>
 jp (fun (v146 : V) h n =>
 jp (fun (v148 : V) h n =>
 jp (fun (v150 : V) h n =>
 jp (fun (v152 : V) h n =>
 jp (fun (v154 : V) h n =>
 thenR (wsB (wV v137 true) (evLoad tbx 57 v144 h fun w156 => cond (eqV 6 w156 v146) (okR) none) (cond (eqV 2 v146 (.tp [])) okR none)) (
 thenR (wsB (wV v137 true) (evLoad tbx 57 v152 h fun w157 => cond (eqV 6 w157 v154) (okR) none) (cond (eqV 2 v154 (.tp [])) okR none)) (
 jp (fun (v158 : V) h n =>
 jp (fun (v160 : V) h n =>
 jp (fun (v162 : V) h n => evPick v137 v162 (.b false) fun v164 =>
 brB v164 (
 jp (fun (s165 : VT [0, 1, 4, 12, 13]) h n => pc s165 fun v167 s168 => pc s168 fun v169 s170 => pc s170 fun v171 s172 => pc s172 fun v173 s174 => pc s174 fun v175 s176 =>
 lo126 (v167, v169, v171, v173, v175, ()) h n) fun kk166 => evBin2 tbx .sub 3 v135 (.i .i64 1) fun v177 =>
 kk166 (v127, v129, v131, v133, v177, ()) h n) (
 kk103 (v127, v129, v131, v133, v135, ()) h n)) fun kk163 =>
 wsB (wV v137 true) ((evUn .not v160 fun v => kk163 v h n)) (kk163 (.tp []) h n)) fun kk161 =>
 wsB (wV v137 true) ((evBin2 tbx .lss 3 v158 (.i .i64 0) fun v => kk161 v h n)) (kk161 (.tp []) h n)) fun kk159 =>
 wsB (wV v137 true) ((evCall cf v138 [v146, v154] h n kk159)) (kk159 (.tp []) h n)))) fun kk155 =>
 wsB (wV v137 true) ((evLoad tbx 57 v152 h fun v => kk155 v h n)) (kk155 (.tp []) h n)) fun kk153 =>
 wsB (wV v137 true) ((evIa tbx 29 v148 v150 fun v => kk153 v h n)) (kk153 (.tp []) h n)) fun kk151 =>
 wsB (wV v137 true) (kk151 v129 h n) (kk151 (.tp []) h n)) fun kk149 =>
 wsB (wV v137 true) (kk149 v127 h n) (kk149 (.tp []) h n)) fun kk147 =>
 wsB (wV v137 true) ((evLoad tbx 57 v144 h fun v => kk147 v h n)) (kk147 (.tp []) h n)) fun kk145 =>
 wsB (wV v137 true) ((evIa tbx 29 v140 v142 fun v => kk145 v h n)) (kk145 (.tp []) h n)) fun kk143 =>
 wsB (wV v137 true) (kk143 v135 h n) (kk143 (.tp []) h n)) fun kk141 =>
 wsB (wV v137 true) (kk141 v127 h n) (kk141 (.tp []) h n)) fun kk139 =>
 wsB (wV v137 true) (kk139 v131 h n) (kk139 (.tp []) h n)) fu (v92, v94, v96, v98, v100, ()) h n) fun kk91 =>
 lpC [0, 1, 4, 12, 13] (fun lo179 s178 h n => pc s178 fun v180 s181 => pc s181 fun v182 s183 => pc s183 fun v184 s185 => pc s185 fun v186 s187 => pc s187 fun v188 s189 => evBin2 tbx .leq 3 v186 v188 fun v190 =>
 jp (fun (v191 : V) h n =>
 jp (fun (v193 : V) h n =>
 jp (fun (v195 : V) h n =>
 jp (fun (v197 : V) h n =>
 jp (fun (v199 : V) h n =>
 jp (fun (v201 : V) h n =>
 jp (fun (v203 : V) h n =>
 jp (fun (v205 : V) h n =>
 jp (fun (v207 : V) h n =>
 thenR (wsB (wV v190 true) (evLoad tbx 57 v197 h fun w209 => cond (eqV 6 w209 v199) (okR) none) (cond (eqV 2 v199 (.tp [])) okR none)) (
 thenR (wsB (wV v190 true) (evLoad tbx 57 v205 h fun w210 => cond (eqV 6 w210 v207) (okR) none) (cond (eqV 2 v207 (.tp [])) okR none)) (
 jp (fun (v211 : V) h n =>
 jp (fun (v213 : V) h n => evPick v190 v213 (.b false) fun v215 =>
 brB v215 (
 jp (fun (s216 : VT [0, 1, 4, 12, 13]) h n => pc s216 fun v218 s219 => pc s219 fun v220 s221 => pc s221 fun v222 s223 => pc s223 fun v224 s225 => pc s225 fun v226 s227 =>
 lo179 (v218, v220, v222, v224, v226, ()) h n) fun kk217 => evBin2 tbx .add 3 v186 (.i .i64 1) fun v228 =>
 kk217 (v180, v182, v184, v228, v188, ()) h n) (
 kk91 (v180, v182, v184, v186, v188, ()) h n)) fun kk214 =>
 wsB (wV v190 true) ((evBin2 tbx .lss 3 v211 (.i .i64 0) fun v => kk214 v h n)) (kk214 (.tp []) h n)) fun kk212 =>
 wsB (wV v190 true) ((evCall cf v191 [v199, v207] h n kk212)) (kk212 (.tp []) h n)))) fun kk208 =>
 wsB (wV v190 true) ((evLoad tbx 57 v205 h fun v => kk208 v h n)) (kk208 (.tp []) h n)) fun kk206 =>
 wsB (wV v190 true) ((evIa tbx 29 v201 v203 fun v => kk206 v h n)) (kk206 (.tp []) h n)) fun kk204 =>
 wsB (wV v190 true) (kk204 v182 h n) (kk204 (.tp []) h n)) fun kk202 =>
 wsB (wV v190 true) (kk202 v180 h n) (kk202 (.tp []) h n)) fun kk200 =>
 wsB (wV v190 true) ((evLoad tbx 57 v197 h fun v => kk200 v h n)) (kk200 (.tp []) h n)) fun kk198 =>
 wsB (wV v190 true) ((evIa tbx 29 v193 v195 fun v => kk198 v h n)) (kk198 (.tp []) h n)) fun kk196 =>
 wsB (wV v190 true) (kk196 v186 h n) (kk196 (.tp []) h n)) fun kk194 =>
 wsB (wV v190 true) (kk194 v180 h n) (kk194 (.tp []) h n)) fun kk192 =>
 wsB (wV v190 true) (kk192 v184 h n) (kk192 (.tp []) h n)) fu (v68, v70, v72, v74, v76, ()) h n) fu (v23, v25, v27, v48, v49, ()) h n) none) none)) fun kk22 =>
 lpC [0, 1, 4, 12, 13] (fun lo232 s231 h n => pc s231 fun v233 s234 => pc s234 fun v235 s236 => pc s236 fun v237 s238 => pc s238 fun v239 s240 => pc s240 fun v241 s242 => evBin2 tbx .leq 3 v239 v241 fun v243 =>
 jp (fun (v244 : V) h n =>
 jp (fun (v246 : V) h n =>
 jp (fun (v248 : V) h n =>
 jp (fun (v250 : V) h n =>
 jp (fun (v252 : V) h n =>
 jp (fun (v254 : V) h n =>
 jp (fun (v256 : V) h n =>
 jp (fun (v258 : V) h n =>
 jp (fun (v260 : V) h n =>
 thenR (wsB (wV v243 true) (evLoad tbx 57 v250 h fun w262 => cond (eqV 6 w262 v252) (okR) none) (cond (eqV 2 v252 (.tp [])) okR none)) (
 thenR (wsB (wV v243 true) (evLoad tbx 57 v258 h fun w263 => cond (eqV 6 w263 v260) (okR) none) (cond (eqV 2 v260 (.tp [])) okR none)) (
 jp (fun (v264 : V) h n =>
 jp (fun (v266 : V) h n =>
 jp (fun (v268 : V) h n => evPick v243 v268 (.b false) fun v270 =>
 brB v270 (
 jp (fun (s271 : VT [0, 1, 4, 12, 13]) h n => pc s271 fun v273 s274 => pc s274 fun v275 s276 => pc s276 fun v277 s278 => pc s278 fun v279 s280 => pc s280 fun v281 s282 =>
 lo232 (v273, v275, v277, v279, v281, ()) h n) fun kk272 => evBin2 tbx .sub 3 v241 (.i .i64 1) fun v283 =>
 kk272 (v233, v235, v237, v239, v283, ()) h n) (
 kk22 (v233, v235, v237, v239, v241, ()) h n)) fun kk269 =>
 wsB (wV v243 true) ((evUn .not v266 fun v => kk269 v h n)) (kk269 (.tp []) h n)) fun kk267 =>
 wsB (wV v243 true) ((evBin2 tbx .lss 3 v264 (.i .i64 0) fun v => kk267 v h n)) (kk267 (.tp []) h n)) fun kk265 =>
 wsB (wV v243 true) ((evCall cf v244 [v252, v260] h n kk265)) (kk265 (.tp []) h n)))) fun kk261 =>
 wsB (wV v243 true) ((evLoad tbx 57 v258 h fun v => kk261 v h n)) (kk261 (.tp []) h n)) fun kk259 =>
 wsB (wV v243 true) ((evIa tbx 29 v254 v256 fun v => kk259 v h n)) (kk259 (.tp []) h n)) fun kk257 =>
 wsB (wV v243 true) (kk257 v235 h n) (kk257 (.tp []) h n)) fun kk255 =>
 wsB (wV v243 true) (kk255 v233 h n) (kk255 (.tp []) h n)) fun kk253 =>
 wsB (wV v243 true) ((evLoad tbx 57 v250 h fun v => kk253 v h n)) (kk253 (.tp []) h n)) fun kk251 =>
 wsB (wV v243 true) ((evIa tbx 29 v246 v248 fun v => kk251 v h n)) (kk251 (.tp []) h n)) fun kk249 =>
 wsB (wV v243 true) (kk249 v241 h n) (kk249 (.tp []) h n)) fun kk247 =>
 wsB (wV v243 true) (kk247 v233 h n) (kk247 (.tp []) h n)) fun kk245 =>
 wsB (wV v243 true) (kk245 v237 h n) (kk245 (.tp []) h n)) fu (v11, v13, v15, v17, v19, ()) h n) fun kk10 =>
 lpC [0, 1, 4, 12, 13] (fun lo285 s284 h n => pc s284 fun v286 s287 => pc s287 fun v288 s289 => pc s289 fun v290 s291 => pc s291 fun v292 s293 => pc s293 fun v294 s295 => evBin2 tbx .leq 3 v292 v294 fun v296 =>
 jp (fun (v297 : V) h n =>
 jp (fun (v299 : V) h n =>
 jp (fun (v301 : V) h n =>
 jp (fun (v303 : V) h n =>
 jp (fun (v305 : V) h n =>
 jp (fun (v307 : V) h n =>
 jp (fun (v309 : V) h n =>
 jp (fun (v311 : V) h n =>
 jp (fun (v313 : V) h n =>
 thenR (wsB (wV v296 true) (evLoad tbx 57 v303 h fun w315 => cond (eqV 6 w315 v305) (okR) none) (cond (eqV 2 v305 (.tp [])) okR none)) (
 thenR (wsB (wV v296 true) (evLoad tbx 57 v311 h fun w316 => cond (eqV 6 w316 v313) (okR) none) (cond (eqV 2 v313 (.tp [])) okR none)) (
 jp (fun (v317 : V) h n =>
 jp (fun (v319 : V) h n => evPick v296 v319 (.b false) fun v321 =>
 brB v321 (
 jp (fun (s322 : VT [0, 1, 4, 12, 13]) h n => pc s322 fun v324 s325 => pc s325 fun v326 s327 => pc s327 fun v328 s329 => pc s329 fun v330 s331 => pc s331 fun v332 s333 =>
 lo285 (v324, v326, v328, v330, v332, ()) h n) fun kk323 => evBin2 tbx .add 3 v292 (.i .i64 1) fun v334 =>
 kk323 (v286, v288, v290, v334, v294, ()) h n) (
 kk10 (v286, v288, v290, v292, v294, ()) h n)) fun kk320 =>
 wsB (wV v296 true) ((evBin2 tbx .lss 3 v317 (.i .i64 0) fun v => kk320 v h n)) (kk320 (.tp []) h n)) fun kk318 =>
 wsB (wV v296 true) ((evCall cf v297 [v305, v313] h n kk318)) (kk318 (.tp []) h n)))) fun kk314 =>
 wsB (wV v296 true) ((evLoad tbx 57 v311 h fun v => kk314 v h n)) (kk314 (.tp []) h n)) fun kk312 =>
 wsB (wV v296 true) ((evIa tbx 29 v307 v309 fun v => kk312 v h n)) (kk312 (.tp []) h n)) fun kk310 =>
 wsB (wV v296 true) (kk310 v288 h n) (kk310 (.tp []) h n)) fun kk308 =>
 wsB (wV v296 true) (kk308 v286 h n) (kk308 (.tp []) h n)) fun kk306 =>
 wsB (wV v296 true) ((evLoad tbx 57 v303 h fun v => kk306 v h n)) (kk306 (.tp []) h n)) fun kk304 =>
 wsB (wV v296 true) ((evIa tbx 29 v299 v301 fun v => kk304 v h n)) (kk304 (.tp []) h n)) fun kk302 =>
 wsB (wV v296 true) (kk302 v292 h n) (kk302 (.tp []) h n)) fun kk300 =>
 wsB (wV v296 true) (kk300 v286 h n) (kk300 (.tp []) h n)) fun kk298 =>
 wsB (wV v296 true) (kk298 v290 h n) (kk298 (.tp []) h n)) fu (a0, a1, a4, v7, v8, ()) h n) none) none
noncomputable def e319 : FE := ⟨Tryz.f319, bd Tryz.f319, [0, 1, 2, 3, 4], [10, 11], (.q .z (.q .z (.q .z (.q (.b [0, 1, 4, 12, 13] (.l [0, 1, 4, 12, 13] (.q (.q .z (.c .z .z)) (.b [0, 1, 4, 12, 13] .z)))) (.q (.b [0, 1, 4, 12, 13] (.l [0, 1, 4, 12, 13] (.q (.q .z (.c .z .z)) (.b [0, 1, 4, 12, 13] .z)))) (.q (.q .z (.c (.q .z (.q .z .z)) .z)) (.q .z (.q .z (.q .z (.q (.b [0, 1, 13] (.l [0, 1, 4, 12, 13] (.b [0, 1, 4, 12, 13] (.q (.b [0, 1, 4, 12, 13] (.l [0, 1, 4, 12, 13] (.q (.q .z (.c .z .z)) (.b [0, 1, 4, 12, 13] .z)))) (.q (.b [0, 1, 4, 12, 13] (.l [0, 1, 4, 12, 13] (.q (.q .z (.c .z .z)) (.b [0, 1, 4, 12, 13] .z)))) (.q (.q .z (.c .z .z)) (.q .z (.q .z .z)))))))) (.q .z (.q .z .z))))))))))))⟩
theorem q319 (fu : Nat) (cf : CF) (a0 a1 a2 a3 a4 : V) (h : H) (n : Id) (k : KV) : evF fu cf e319 [a0, a1, a2, a3, a4] h n k = s319 fu cf a0 a1 a2 a3 a4 h n k := by kernel_rfl
theorem p319 : PfOk Tryz.prog tbx mtab 319 (w5 (s319 fuX)) := pfo e319 Tryz.func319 (by kernel_rfl) (w5_ok (q319 fuX))
noncomputable def s320 (fu : Nat) (cf : CF) (a0 a1 : V) (h : H) (n : Id) (k : KV) : R :=
 cf 293 [a0] h n fun v1 h n =>
 jp (fun (s2 : VT [0, 1]) h n => pc s2 fun v4 s5 => pc s5 fun v6 s7 =>
 evNc' v4 fun v8 => evFa tbx 314 1 v8 fun v9 => evLoad tbx 73 v9 h fun v10 =>
 evCap tbx 73 v10 fun v11 =>
 evNc' v4 fun v12 => evFa tbx 314 1 v12 fun v13 => evLoad tbx 73 v13 h fun v14 =>
 evLen tbx 73 v14 fun v15 => evBin2 tbx .sub 3 v11 v15 fun v16 => evBin2 tbx .lss 3 v16 v6 fun v17 => evLoad tbx 73 v9 h fun w20 => cond (eqV 6 w20 v10) ( evLoad tbx 73 v13 h fun w19 => cond (eqV 6 w19 v14) (
 brB v17 (
 cf 329 [v4, v6] h n fun v18 h n =>
 k (.tp []) h n) (
 k (.tp []) h n)) none) none) fun kk3 => evBin2 tbx .lss 3 a1 (.i .i64 0) fun v21 =>
 brB v21 (
 none) (
 kk3 (a0, a1, ()) h n)
noncomputable def e320 : FE := ⟨Tryz.f320, bd Tryz.f320, [0, 1], [], (.q .z (.s [0, 1] (.q .z (.c .z .z)) (.q .z (.c .z .z))))⟩
theorem q320 (fu : Nat) (cf : CF) (a0 a1 : V) (h : H) (n : Id) (k : KV) : evF fu cf e320 [a0, a1] h n k = s320 fu cf a0 a1 h n k := by kernel_rfl
theorem p320 : PfOk Tryz.prog tbx mtab 320 (w2 (s320 fuX)) := pfo e320 Tryz.func320 (by kernel_rfl) (w2_ok (q320 fuX))
noncomputable def s321 (fu : Nat) (cf : CF) (a0 a1 : V) (h : H) (n : Id) (k : KV) : R :=
 cf 330 [a0, a1] h n fun v1 h n => evBin2 tbx .geq 3 v1 (.i .i64 0) fun v2 =>
 k v2 h n
noncomputable def e321 : FE := ⟨Tryz.f321, bd Tryz.f321, [0, 1], [4], (.q .z (.q .z .z))⟩
theorem q321 (fu : Nat) (cf : CF) (a0 a1 : V) (h : H) (n : Id) (k : KV) : evF fu cf e321 [a0, a1] h n k = s321 fu cf a0 a1 h n k := by kernel_rfl
theorem p321 : PfOk Tryz.prog tbx mtab 321 (w2 (s321 fuX)) := pfo e321 Tryz.func321 (by kernel_rfl) (w2_ok (q321 fuX))
noncomputable def s328 (fu : Nat) (cf : CF) (a0 a1 a2 a3 a4 a5 : V) (h : H) (n : Id) (k : KV) : R :=
 cf 331 [a0, a1, a2, a4, a5] h n fun v1 h n => evExt 0 v1 fun v2 => evExt 1 v1 fun v3 =>
 cf 331 [a0, v3, a3, a4, a5] h n fun v4 h n => evExt 0 v4 fun v5 => evExt 1 v4 fun v6 =>
 cf 331 [a0, v2, v5, a4, a5] h n fun v7 h n => evExt 0 v7 fun v8 => evExt 1 v7 fun v9 =>
 k v9 h n
noncomputable def e328 : FE := ⟨Tryz.f328, bd Tryz.f328, [0, 1, 2, 3, 4, 5], [12], (.q .z (.q .z (.q .z (.q .z (.q .z .z)))))⟩
theorem q328 (fu : Nat) (cf : CF) (a0 a1 a2 a3 a4 a5 : V) (h : H) (n : Id) (k : KV) : evF fu cf e328 [a0, a1, a2, a3, a4, a5] h n k = s328 fu cf a0 a1 a2 a3 a4 a5 h n k := by kernel_rfl
theorem p328 : PfOk Tryz.prog tbx mtab 328 (w6 (s328 fuX)) := pfo e328 Tryz.func328 (by kernel_rfl) (w6_ok (q328 fuX))
noncomputable def s329 (fu : Nat) (cf : CF) (a0 a1 : V) (h : H) (n : Id) (k : KV) : R :=
 evNc' a0 fun v1 => evFa tbx 314 1 v1 fun v2 => evLoad tbx 73 v2 h fun v3 =>
 evCap tbx 73 v3 fun v4 => evBin2 tbx .mul 3 (.i .i64 2) v4 fun v5 => evBin2 tbx .add 3 v5 a1 fun v6 =>
 evNc' a0 fun v7 => evFa tbx 314 1 v7 fun v8 => evLoad tbx 73 v8 h fun v9 =>
 evLen tbx 73 v9 fun v10 => evLoad tbx 73 v2 h fun w21 => cond (eqV 6 w21 v3) ( evLoad tbx 73 v8 h fun w20 => cond (eqV 6 w20 v9) (
 cf 332 [v6] h n fun v11 h n =>
 evSlc tbx 73 v11 none (some v10) fun v12 => evLoad tbx 73 v8 h fun w19 => cond (eqV 6 w19 v9) (
 evNc' a0 fun v13 => evFa tbx 314 1 v13 fun v14 => evLoad tbx 73 v14 h fun v15 =>
 evCopy tbx 73 v12 v15 fun v16 =>
 evNc' a0 fun v17 => evFa tbx 314 1 v17 fun v18 =>
 evStore tbx 73 v18 v12 h n fun _ h n =>
 k (.tp []) h n) none) none) none
noncomputable def e329 : FE := ⟨Tryz.f329, bd Tryz.f329, [0, 1], [], (.q .z (.q .z .z))⟩
theorem q329 (fu : Nat) (cf : CF) (a0 a1 : V) (h : H) (n : Id) (k : KV) : evF fu cf e329 [a0, a1] h n k = s329 fu cf a0 a1 h n k := by kernel_rfl
theorem p329 : PfOk Tryz.prog tbx mtab 329 (w2 (s329 fuX)) := pfo e329 Tryz.func329 (by kernel_rfl) (w2_ok (q329 fuX))
noncomputable def s330 (fu : Nat) (cf : CF) (a0 a1 : V) (h : H) (n : Id) (k : KV) : R :=
 evLen tbx 71 a0 fun v1 =>
 jp (fun (s2 : VT []) h n =>
 k (.i .i64 (-1)) h n) fun kk3 =>
 lpC [0, 1, 7, 8] (fun lo5 s4 h n => pc s4 fun v6 s7 => pc s7 fun v8 s9 => pc s9 fun v10 s11 => pc s11 fun v12 s13 => evBin2 tbx .lss 3 v12 v10 fun v14 =>
 brB v14 (
 jp (fun (s15 : VT [0, 1, 7, 8]) h n => pc s15 fun v17 s18 => pc s18 fun v19 s20 => pc s20 fun v21 s22 => pc s22 fun v23 s24 => evBin2 tbx .add 3 v23 (.i .i64 1) fun v25 =>
 lo5 (v17, v19, v21, v25, ()) h n) fun kk16 => evIa tbx 71 v6 v12 fun v26 => evLoad tbx 9 v26 h fun v27 => evBin2 tbx .eql 9 v8 v27 fun v28 =>
 brB v28 (
 k v12 h n) (
 kk16 (v6, v8, v10, v12, ()) h n)) (
 kk3 (()) h n)) fu (a0, a1, v1, (.i .i64 0), ()) h n
noncomputable def e330 : FE := ⟨Tryz.f330, bd Tryz.f330, [0, 1], [4], (.q .z (.q (.q .z (.b [] (.l [0, 1, 7, 8] (.q .z (.q (.c .z .z) (.q (.b [0, 1, 7, 8] (.q .z (.q .z (.c (.q .z .z) .z)))) .z)))))) (.q .z .z)))⟩
theorem q330 (fu : Nat) (cf : CF) (a0 a1 : V) (h : H) (n : Id) (k : KV) : evF fu cf e330 [a0, a1] h n k = s330 fu cf a0 a1 h n k := by kernel_rfl
theorem p330 : PfOk Tryz.prog tbx mtab 330 (w2 (s330 fuX)) := pfo e330 Tryz.func330 (by kernel_rfl) (w2_ok (q330 fuX))
noncomputable def s331 (fu : Nat) (cf : CF) (a0 a1 a2 a3 a4 : V) (h : H) (n : Id) (k : KV) : R :=
 evIa tbx 29 a0 a2 fun v1 => evLoad tbx 57 v1 h fun v2 => evIa tbx 29 a0 a1 fun v3 => evLoad tbx 57 v3 h fun v4 => evLoad tbx 57 v1 h fun w12 => cond (eqV 6 w12 v2) ( evLoad tbx 57 v3 h fun w11 => cond (eqV 6 w11 v4) (
 evCall cf a4 [v2, v4] h n fun v5 h n => evBin2 tbx .lss 3 v5 (.i .i64 0) fun v6 =>
 brB v6 (
 evNc' a3 fun v7 => evLoad tbx 3 v7 h fun v8 => evBin2 tbx .add 3 v8 (.i .i64 1) fun v9 =>
 evNc' a3 fun v10 =>
 evStore tbx 3 v10 v9 h n fun _ h n =>
 k (.tp [a2, a1]) h n) (
 k (.tp [a1, a2]) h n)) none) none
noncomputable def e331 : FE := ⟨Tryz.f331, bd Tryz.f331, [0, 1, 2, 3, 4], [10, 11], (.q .z (.q (.q .z (.c (.q .z (.q .z .z)) .z)) (.q .z .z)))⟩
theorem q331 (fu : Nat) (cf : CF) (a0 a1 a2 a3 a4 : V) (h : H) (n : Id) (k : KV) : evF fu cf e331 [a0, a1, a2, a3, a4] h n k = s331 fu cf a0 a1 a2 a3 a4 h n k := by kernel_rfl
theorem p331 : PfOk Tryz.prog tbx mtab 331 (w5 (s331 fuX)) := pfo e331 Tryz.func331 (by kernel_rfl) (w5_ok (q331 fuX))
end Go.Proofs.Nw.X
end
section
/-
  DERIVED: THE SHELF's CONTRACTS AT THIS DUMP, IN PLAIN WORDS (tools/lay-plain.mjs out of 'TryzShelf.lean', which tools/lay-shelf.mjs wrote): THE SAME DECLARATIONS UNDER THE SAME NAMES: 'import', 'namespace', 'open', 'def', 'theorem' AND NOTHING ELSE: no command of the shelf's: FOR A HAND-IN. Each laying: the table of numbers ('.._ren') and one theorem, a field a fact of the dump's own or the kernel's comparison; each contract: ONE APPLICATION.
-/
namespace Go.Proofs
open Go.Shelf
def Tryz.lays219_ren : Go.Shelf.Ren := ⟨fun | 219 => 138 | 217 => 137 | 225 => 192 | 224 => 193 | 267 => 194 | 266 => 191 | 314 => 241 | n => n, fun | 9 => 9 | 3 => 3 | 4 => 4 | 5 => 5 | 46 => 22 | 146 => 298 | 51 => 146 | n => n, fun | 1 => 0 | n => n⟩
theorem Tryz.lays219 : Go.Proofs.Lays.n219 Tryz.prog Tryz.lays219_ren := {
  mixed := by kernel_rfl
  f217 := Tryz.func137.trans (congrArg some (by kernel_rfl))
  f219 := Tryz.func138.trans (congrArg some (by kernel_rfl))
  f224 := Tryz.func193.trans (congrArg some (by kernel_rfl))
  f225 := Tryz.func192.trans (congrArg some (by kernel_rfl))
  f266 := Tryz.func191.trans (congrArg some (by kernel_rfl))
  f267 := Tryz.func194.trans (congrArg some (by kernel_rfl))
  f314 := Tryz.func241.trans (congrArg some (by kernel_rfl))
  t3 := Tryz.underlying3
  a3 := Tryz.isAgg3
  z3 := Tryz.sizeOf3
  v3 := Tryz.zeroValue3
  t4 := Tryz.underlying4
  a4 := Tryz.isAgg4
  z4 := Tryz.sizeOf4
  v4 := Tryz.zeroValue4
  t5 := Tryz.underlying5
  a5 := Tryz.isAgg5
  z5 := Tryz.sizeOf5
  v5 := Tryz.zeroValue5
  t9 := Tryz.underlying9
  a9 := Tryz.isAgg9
  z9 := Tryz.sizeOf9
  v9 := Tryz.zeroValue9
  t46 := Tryz.underlying22
  a46 := Tryz.isAgg22
  z46 := Tryz.sizeOf22
  v46 := Tryz.zeroValue22
  t51 := Tryz.underlying146
  a51 := Tryz.isAgg146
  z51 := Tryz.sizeOf146
  v51 := Tryz.zeroValue146
  t146 := Tryz.underlying298
  a146 := Tryz.isAgg298
  z146 := Tryz.sizeOf298
  v146 := Tryz.zeroValue298
  g1 := by kernel_rfl }
open Go.RowKit Go.Lib in
theorem Tryz.stringslite_Index (s sub : ByteArray) (m : Int) (w : World) (hs : s.size < 4294967281) (hm : w.cell? ⟨0, 0, none⟩ = some (.int .i64 m)) :
    Calls Tryz.prog 138 #[.string s, .string sub] w fun e w' => e = .returned (.int .i64 (Lib.index s.data.toList sub.data.toList)) ∧ w' = w := Any.stringslite_Index Tryz.lays219 s sub m w hs hm
def Tryz.lays153_ren : Go.Shelf.Ren := ⟨fun | 153 => 224 | 152 => 268 | 226 => 269 | 227 => 238 | 228 => 270 | 137 => 93 | 119 => 303 | 224 => 193 | 225 => 192 | 217 => 137 | 266 => 191 | n => n, fun | 9 => 9 | 3 => 3 | 4 => 4 | 5 => 5 | 21 => 21 | 117 => 294 | 116 => 293 | 0 => 0 | 46 => 22 | 124 => 297 | n => n, fun | n => n⟩
theorem Tryz.lays153 : Go.Proofs.Lays.n153 Tryz.prog Tryz.lays153_ren := {
  mixed := by kernel_rfl
  f119 := Tryz.func303.trans (congrArg some (by kernel_rfl))
  f137 := Tryz.func93.trans (congrArg some (by kernel_rfl))
  f152 := Tryz.func268.trans (congrArg some (by kernel_rfl))
  f153 := Tryz.func224.trans (congrArg some (by kernel_rfl))
  f217 := Tryz.func137.trans (congrArg some (by kernel_rfl))
  f224 := Tryz.func193.trans (congrArg some (by kernel_rfl))
  f225 := Tryz.func192.trans (congrArg some (by kernel_rfl))
  f226 := Tryz.func269.trans (congrArg some (by kernel_rfl))
  f227 := Tryz.func238.trans (congrArg some (by kernel_rfl))
  f228 := Tryz.func270.trans (congrArg some (by kernel_rfl))
  f266 := Tryz.func191.trans (congrArg some (by kernel_rfl))
  t0 := Tryz.underlying0
  a0 := Tryz.isAgg0
  z0 := Tryz.sizeOf0
  v0 := Tryz.zeroValue0
  t3 := Tryz.underlying3
  a3 := Tryz.isAgg3
  z3 := Tryz.sizeOf3
  v3 := Tryz.zeroValue3
  t4 := Tryz.underlying4
  a4 := Tryz.isAgg4
  z4 := Tryz.sizeOf4
  v4 := Tryz.zeroValue4
  t5 := Tryz.underlying5
  a5 := Tryz.isAgg5
  z5 := Tryz.sizeOf5
  v5 := Tryz.zeroValue5
  t9 := Tryz.underlying9
  a9 := Tryz.isAgg9
  z9 := Tryz.sizeOf9
  v9 := Tryz.zeroValue9
  t21 := Tryz.underlying21
  a21 := Tryz.isAgg21
  z21 := Tryz.sizeOf21
  v21 := Tryz.zeroValue21
  t46 := Tryz.underlying22
  a46 := Tryz.isAgg22
  z46 := Tryz.sizeOf22
  v46 := Tryz.zeroValue22
  t116 := Tryz.underlying293
  a116 := Tryz.isAgg293
  z116 := Tryz.sizeOf293
  t117 := Tryz.underlying294
  a117 := Tryz.isAgg294
  z117 := Tryz.sizeOf294
  v117 := Tryz.zeroValue294
  t124 := Tryz.underlying297
  a124 := Tryz.isAgg297
  z124 := Tryz.sizeOf297
  v124 := Tryz.zeroValue297 }
open Go.RowKit Go.Lib in
theorem Tryz.strings_IndexAny (hv116 : ∀ w, (zeroValue 293).run Tryz.prog w = .ok (.agg (Array.replicate 256 (.bool false))) w) (s chars : ByteArray) (w : World) (hs : s.size < 4294967281) (hcs : chars.size < 4294967281) (has : ∀ (j : Nat) b, s.data.toList[j]? = some b → b.toNat < 128) (hac : ∀ (j : Nat) b, chars.data.toList[j]? = some b → b.toNat < 128) :
    Calls Tryz.prog 224 #[.string s, .string chars] w fun e w' => e = .returned (.int .i64 (Lib.indexAny s.data.toList chars.data.toList)) ∧ Below w.heap.size w w' := Any.strings_IndexAny Tryz.lays153 hv116 (by kernel_rfl) s chars w hs hcs has hac
end Go.Proofs
end
section
/- XGE: seat F's functions by contract. -/
open Go Go.RowKit Go.Proofs
namespace Go.Proofs.Nw.X
open Go.Proofs.Nw.K
noncomputable abbrev gMkz5 : Fn1 := gMkz 5
theorem zero293 : ∀ w, (zeroValue 293).run Tryz.prog w = .ok (.agg (Array.replicate 256 (.bool false))) w := by
  intro w
  have h : (Tryz.prog.info? 293).bind (·.zero) = some (.agg (Array.replicate 256 (.bool false))) := by kernel_rfl
  cases hi : Tryz.prog.info? 293 with
  | none => rw [hi] at h; cases h
  | some i =>
    rw [hi] at h
    have h : i.zero = some (.agg (Array.replicate 256 (.bool false))) := h
    simp [zeroValue, typeInfo, hi, h]
theorem sd191 : Sd Tryz.prog 191 gIx := sd_ix fun s c w => by
  rw [run_callFunc_extern Tryz.func191 (by kernel_rfl) (by kernel_rfl) (by kernel_rfl) (e := Extern.BytealgIndexByte.indexByte) (by kernel_rfl), Lib.run_indexByteString]; rfl
theorem sd311 : Sd Tryz.prog 311 gId := sd_id (tx_eiok (311, ()) (by show (311, ()) ∈ [(311, ())]; simp))
theorem sd332 : Sd Tryz.prog 332 gMkz5 := sd_mkz fun m w hm => by
  obtain ⟨cs, h1, h2, h3⟩ := Lib.run_makeNoZero (P := Tryz.prog) w #[3] 73 5 (by kernel_rfl) m hm
  exact ⟨cs, by rw [run_callFunc_extern Tryz.func332 (by kernel_rfl) (by kernel_rfl) (by kernel_rfl) (e := Extern.BytealgMakeNoZero.makeNoZero #[3] #[73]) (by kernel_rfl), h1]; rfl, h2, h3⟩
theorem sd224 : Sd Tryz.prog 224 gIa := sd_ia (by kernel_rfl) fun s chars w h1 h2 h3 h4 => Tryz.strings_IndexAny zero293 s chars w h1 h2 h3 h4
theorem sd138 : Sd Tryz.prog 138 gSi := sd_si (by kernel_rfl) fun s sub m w h1 h2 => Tryz.stringslite_Index s sub m w h1 h2
end Go.Proofs.Nw.X
end
section
/- printed by xg.py: seat F's evaluator. -/
open Go Go.RowKit Go.Proofs
set_option maxRecDepth 100000
namespace Go.Proofs.Nw.X
open Go.Proofs.Nw.K
noncomputable def fns : BT (CF → Fn1) := (.n 158 (w1 (s158 fuX)) (.n 90 (w1 (s90 fuX)) (.n 53 (w5 (s53 fuX)) (.n 37 (w2 (s37 fuX)) (.n 25 (w0 (s25 fuX)) (.n 20 (w2 (s20 fuX)) (.n 18 (w1 (s18 fuX)) (.n 7 (w1 (s7 fuX)) .e .e) (.n 19 (w1 (s19 fuX)) .e .e)) (.n 23 (w1 (s23 fuX)) (.n 22 (w2 (s22 fuX)) .e .e) (.n 24 (w2 (s24 fuX)) .e .e))) (.n 34 (w1 (s34 fuX)) (.n 32 (w2 (s32 fuX)) (.n 31 (w1 (s31 fuX)) .e .e) (.n 33 (w2 (s33 fuX)) .e .e)) (.n 36 (w2 (s36 fuX)) (.n 35 (w1 (s35 fuX)) .e .e) .e))) (.n 44 (w1 (s44 fuX)) (.n 41 (w1 (s41 fuX)) (.n 39 (w2 (s39 fuX)) (.n 38 (w1 (s38 fuX)) .e .e) (.n 40 (w2 (s40 fuX)) .e .e)) (.n 43 (w1 (s43 fuX)) (.n 42 (w1 (s42 fuX)) .e .e) .e)) (.n 50 (w1 (s50 fuX)) (.n 46 (w1 (s46 fuX)) (.n 45 (w2 (s45 fuX)) .e .e) (.n 49 (w1 (s49 fuX)) .e .e)) (.n 52 (w1 (s52 fuX)) (.n 51 (w1 (s51 fuX)) .e .e) .e)))) (.n 67 (w1 (s67 fuX)) (.n 60 (w2 (s60 fuX)) (.n 57 (w2 (s57 fuX)) (.n 55 (w1 (s55 fuX)) (.n 54 (w1 (s54 fuX)) .e .e) (.n 56 (w2 (s56 fuX)) .e .e)) (.n 59 (w1 (s59 fuX)) (.n 58 (w1 (s58 fuX)) .e .e) .e)) (.n 64 (w1 (s64 fuX)) (.n 62 (w1 (s62 fuX)) (.n 61 (w2 (s61 fuX)) .e .e) (.n 63 (w1 (s63 fuX)) .e .e)) (.n 66 (w1 (s66 fuX)) (.n 65 (w3 (s65 fuX)) .e .e) .e))) (.n 82 (w4 (s82 fuX)) (.n 76 (w1 (s76 fuX)) (.n 74 (w1 (s74 fuX)) (.n 73 (w1 (s73 fuX)) .e .e) (.n 75 (w1 (s75 fuX)) .e .e)) (.n 80 (w4 (s80 fuX)) (.n 77 (w4 (s77 fuX)) .e .e) .e)) (.n 87 (w1 (s87 fuX)) (.n 85 (w1 (s85 fuX)) (.n 84 (w5 (s84 fuX)) .e .e) (.n 86 (w1 (s86 fuX)) .e .e)) (.n 89 (w1 (s89 fuX)) (.n 88 (w2 (s88 fuX)) .e .e) .e))))) (.n 130 (w2 (s130 fuX)) (.n 105 (w1 (s105 fuX)) (.n 98 (w3 (s98 fuX)) (.n 94 (w2 (s94 fuX)) (.n 92 (w1 (s92 fuX)) (.n 91 (w2 (s91 fuX)) .e .e) (.n 93 (w2 (s93 fuX)) .e .e)) (.n 96 (w1 (s96 fuX)) (.n 95 (w1 (s95 fuX)) .e .e) (.n 97 (w1 (s97 fuX)) .e .e))) (.n 102 (w2 (s102 fuX)) (.n 100 (w2 (s100 fuX)) (.n 99 (w2 (s99 fuX)) .e .e) (.n 101 (w2 (s101 fuX)) .e .e)) (.n 104 (w2 (s104 fuX)) (.n 103 (w2 (s103 fuX)) .e .e) .e))) (.n 112 (w1 (s112 fuX)) (.n 109 (w1 (s109 fuX)) (.n 107 (w2 (s107 fuX)) (.n 106 (w1 (s106 fuX)) .e .e) (.n 108 (w3 (s108 fuX)) .e .e)) (.n 111 (w2 (s111 fuX)) (.n 110 (w1 (s110 fuX)) .e .e) .e)) (.n 123 (w1 (s123 fuX)) (.n 114 (w1 (s114 fuX)) (.n 113 (w1 (s113 fuX)) .e .e) (.n 115 (w1 (s115 fuX)) .e .e)) (.n 129 (w6 (s129 fuX)) (.n 124 (w1 (s124 fuX)) .e .e) .e)))) (.n 144 (w2 (s144 fuX)) (.n 137 (w2 (s137 fuX)) (.n 134 (w1 (s134 fuX)) (.n 132 (w1 (s132 fuX)) (.n 131 (w2 (s131 fuX)) .e .e) (.n 133 (w1 (s133 fuX)) .e .e)) (.n 136 (w2 (s136 fuX)) (.n 135 (w1 (s135 fuX)) .e .e) .e)) (.n 141 (w2 (s141 fuX)) (.n 139 (w1 (s139 fuX)) (.n 138 (fun _ => gSi) .e .e) (.n 140 (w1 (s140 fuX)) .e .e)) (.n 143 (w1 (s143 fuX)) (.n 142 (w2 (s142 fuX)) .e .e) .e))) (.n 151 (w4 (s151 fuX)) (.n 148 (w2 (s148 fuX)) (.n 146 (w4 (s146 fuX)) (.n 145 (w3 (s145 fuX)) .e .e) (.n 147 (w3 (s147 fuX)) .e .e)) (.n 150 (w3 (s150 fuX)) (.n 149 (w3 (s149 fuX)) .e .e) .e)) (.n 155 (w3 (s155 fuX)) (.n 153 (w3 (s153 fuX)) (.n 152 (w3 (s152 fuX)) .e .e) (.n 154 (w5 (s154 fuX)) .e .e)) (.n 157 (w2 (s157 fuX)) (.n 156 (w2 (s156 fuX)) .e .e) .e)))))) (.n 244 (w2 (s244 fuX)) (.n 205 (w2 (s205 fuX)) (.n 174 (w2 (s174 fuX)) (.n 166 (w3 (s166 fuX)) (.n 162 (w1 (s162 fuX)) (.n 160 (w1 (s160 fuX)) (.n 159 (w1 (s159 fuX)) .e .e) (.n 161 (w2 (s161 fuX)) .e .e)) (.n 164 (w2 (s164 fuX)) (.n 163 (w2 (s163 fuX)) .e .e) (.n 165 (w2 (s165 fuX)) .e .e))) (.n 170 (w2 (s170 fuX)) (.n 168 (w1 (s168 fuX)) (.n 167 (w2 (s167 fuX)) .e .e) (.n 169 (w2 (s169 fuX)) .e .e)) (.n 172 (w1 (s172 fuX)) (.n 171 (w2 (s171 fuX)) .e .e) .e))) (.n 195 (w1 (s195 fuX)) (.n 188 (w1 (s188 fuX)) (.n 186 (w5 (s186 fuX)) (.n 180 (w2 (s180 fuX)) .e .e) (.n 187 (w2 (s187 fuX)) .e .e)) (.n 191 (fun _ => gIx) (.n 190 (w2 (s190 fuX)) .e .e) .e)) (.n 202 (w1 (s202 fuX)) (.n 200 (w1 (s200 fuX)) (.n 196 (w2 (s196 fuX)) .e .e) (.n 201 (w1 (s201 fuX)) .e .e)) (.n 204 (w2 (s204 fuX)) (.n 203 (w2 (s203 fuX)) .e .e) .e)))) (.n 219 (w2 (s219 fuX)) (.n 212 (w6 (s212 fuX)) (.n 209 (w2 (s209 fuX)) (.n 207 (w1 (s207 fuX)) (.n 206 (w1 (s206 fuX)) .e .e) (.n 208 (w1 (s208 fuX)) .e .e)) (.n 211 (w2 (s211 fuX)) (.n 210 (w1 (s210 fuX)) .e .e) .e)) (.n 216 (w1 (s216 fuX)) (.n 214 (w3 (s214 fuX)) (.n 213 (w3 (s213 fuX)) .e .e) (.n 215 (w3 (s215 fuX)) .e .e)) (.n 218 (w2 (s218 fuX)) (.n 217 (w1 (s217 fuX)) .e .e) .e))) (.n 226 (w2 (s226 fuX)) (.n 223 (w2 (s223 fuX)) (.n 221 (w3 (s221 fuX)) (.n 220 (w4 (s220 fuX)) .e .e) (.n 222 (w2 (s222 fuX)) .e .e)) (.n 225 (w2 (s225 fuX)) (.n 224 (fun _ => gIa) .e .e) .e)) (.n 236 (w1 (s236 fuX)) (.n 228 (w2 (s228 fuX)) (.n 227 (w1 (s227 fuX)) .e .e) (.n 234 (w2 (s234 fuX)) .e .e)) (.n 238 (w1 (s238 fuX)) (.n 237 (w2 (s237 fuX)) .e .e) .e))))) (.n 275 (w2 (s275 fuX)) (.n 259 (w2 (s259 fuX)) (.n 252 (w1 (s252 fuX)) (.n 249 (w2 (s249 fuX)) (.n 246 (w1 (s246 fuX)) (.n 245 (w1 (s245 fuX)) .e .e) (.n 248 (w2 (s248 fuX)) .e .e)) (.n 251 (w2 (s251 fuX)) (.n 250 (w1 (s250 fuX)) .e .e) .e)) (.n 256 (w2 (s256 fuX)) (.n 254 (w1 (s254 fuX)) (.n 253 (w1 (s253 fuX)) .e .e) (.n 255 (w1 (s255 fuX)) .e .e)) (.n 258 (w1 (s258 fuX)) (.n 257 (w2 (s257 fuX)) .e .e) .e))) (.n 266 (w2 (s266 fuX)) (.n 263 (w1 (s263 fuX)) (.n 261 (w1 (s261 fuX)) (.n 260 (w2 (s260 fuX)) .e .e) (.n 262 (w2 (s262 fuX)) .e .e)) (.n 265 (w2 (s265 fuX)) (.n 264 (w1 (s264 fuX)) .e .e) .e)) (.n 270 (w2 (s270 fuX)) (.n 268 (w2 (s268 fuX)) (.n 267 (w2 (s267 fuX)) .e .e) (.n 269 (w1 (s269 fuX)) .e .e)) (.n 272 (w2 (s272 fuX)) (.n 271 (w2 (s271 fuX)) .e .e) .e)))) (.n 301 (w1 (s301 fuX)) (.n 294 (w5 (s294 fuX)) (.n 291 (w1 (s291 fuX)) (.n 287 (w2 (s287 fuX)) (.n 285 (w1 (s285 fuX)) .e .e) (.n 289 (w2 (s289 fuX)) .e .e)) (.n 293 (w1 (s293 fuX)) (.n 292 (w1 (s292 fuX)) .e .e) .e)) (.n 298 (w2 (s298 fuX)) (.n 296 (w2 (s296 fuX)) (.n 295 (w2 (s295 fuX)) .e .e) (.n 297 (w1 (s297 fuX)) .e .e)) (.n 300 (w1 (s300 fuX)) (.n 299 (w2 (s299 fuX)) .e .e) .e))) (.n 320 (w2 (s320 fuX)) (.n 315 (w4 (s315 fuX)) (.n 311 (fun _ => gId) (.n 302 (w2 (s302 fuX)) .e .e) (.n 312 (w4 (s312 fuX)) .e .e)) (.n 319 (w5 (s319 fuX)) (.n 317 (w4 (s317 fuX)) .e .e) .e)) (.n 330 (w2 (s330 fuX)) (.n 328 (w6 (s328 fuX)) (.n 321 (w2 (s321 fuX)) .e .e) (.n 329 (w2 (s329 fuX)) .e .e)) (.n 332 (fun _ => gMkz5) (.n 331 (w5 (s331 fuX)) .e .e) .e)))))))
theorem fnsOk : ∀ x ∈ fns.toL, PfOk Tryz.prog tbx mtab x.1 x.2 := (all_cons p7 (all_cons p18 (all_cons p19 (all_cons p20 (all_cons p22 (all_cons p23 (all_cons p24 (all_cons p25 (all_cons p31 (all_cons p32 (all_cons p33 (all_cons p34 (all_cons p35 (all_cons p36 (all_cons p37 (all_cons p38 (all_cons p39 (all_cons p40 (all_cons p41 (all_cons p42 (all_cons p43 (all_cons p44 (all_cons p45 (all_cons p46 (all_cons p49 (all_cons p50 (all_cons p51 (all_cons p52 (all_cons p53 (all_cons p54 (all_cons p55 (all_cons p56 (all_cons p57 (all_cons p58 (all_cons p59 (all_cons p60 (all_cons p61 (all_cons p62 (all_cons p63 (all_cons p64 (all_cons p65 (all_cons p66 (all_cons p67 (all_cons p73 (all_cons p74 (all_cons p75 (all_cons p76 (all_cons p77 (all_cons p80 (all_cons p82 (all_cons p84 (all_cons p85 (all_cons p86 (all_cons p87 (all_cons p88 (all_cons p89 (all_cons p90 (all_cons p91 (all_cons p92 (all_cons p93 (all_cons p94 (all_cons p95 (all_cons p96 (all_cons p97 (all_cons p98 (all_cons p99 (all_cons p100 (all_cons p101 (all_cons p102 (all_cons p103 (all_cons p104 (all_cons p105 (all_cons p106 (all_cons p107 (all_cons p108 (all_cons p109 (all_cons p110 (all_cons p111 (all_cons p112 (all_cons p113 (all_cons p114 (all_cons p115 (all_cons p123 (all_cons p124 (all_cons p129 (all_cons p130 (all_cons p131 (all_cons p132 (all_cons p133 (all_cons p134 (all_cons p135 (all_cons p136 (all_cons p137 (all_cons (pf_ext sd138) (all_cons p139 (all_cons p140 (all_cons p141 (all_cons p142 (all_cons p143 (all_cons p144 (all_cons p145 (all_cons p146 (all_cons p147 (all_cons p148 (all_cons p149 (all_cons p150 (all_cons p151 (all_cons p152 (all_cons p153 (all_cons p154 (all_cons p155 (all_cons p156 (all_cons p157 (all_cons p158 (all_cons p159 (all_cons p160 (all_cons p161 (all_cons p162 (all_cons p163 (all_cons p164 (all_cons p165 (all_cons p166 (all_cons p167 (all_cons p168 (all_cons p169 (all_cons p170 (all_cons p171 (all_cons p172 (all_cons p174 (all_cons p180 (all_cons p186 (all_cons p187 (all_cons p188 (all_cons p190 (all_cons (pf_ext sd191) (all_cons p195 (all_cons p196 (all_cons p200 (all_cons p201 (all_cons p202 (all_cons p203 (all_cons p204 (all_cons p205 (all_cons p206 (all_cons p207 (all_cons p208 (all_cons p209 (all_cons p210 (all_cons p211 (all_cons p212 (all_cons p213 (all_cons p214 (all_cons p215 (all_cons p216 (all_cons p217 (all_cons p218 (all_cons p219 (all_cons p220 (all_cons p221 (all_cons p222 (all_cons p223 (all_cons (pf_ext sd224) (all_cons p225 (all_cons p226 (all_cons p227 (all_cons p228 (all_cons p234 (all_cons p236 (all_cons p237 (all_cons p238 (all_cons p244 (all_cons p245 (all_cons p246 (all_cons p248 (all_cons p249 (all_cons p250 (all_cons p251 (all_cons p252 (all_cons p253 (all_cons p254 (all_cons p255 (all_cons p256 (all_cons p257 (all_cons p258 (all_cons p259 (all_cons p260 (all_cons p261 (all_cons p262 (all_cons p263 (all_cons p264 (all_cons p265 (all_cons p266 (all_cons p267 (all_cons p268 (all_cons p269 (all_cons p270 (all_cons p271 (all_cons p272 (all_cons p275 (all_cons p285 (all_cons p287 (all_cons p289 (all_cons p291 (all_cons p292 (all_cons p293 (all_cons p294 (all_cons p295 (all_cons p296 (all_cons p297 (all_cons p298 (all_cons p299 (all_cons p300 (all_cons p301 (all_cons p302 (all_cons (pf_ext sd311) (all_cons p312 (all_cons p315 (all_cons p317 (all_cons p319 (all_cons p320 (all_cons p321 (all_cons p328 (all_cons p329 (all_cons p330 (all_cons p331 (all_cons (pf_ext sd332) all_nil))))))))))))))))))))))))))))))))))))))))))))))))))))))))))))))))))))))))))))))))))))))))))))))))))))))))))))))))))))))))))))))))))))))))))))))))))))))))))))))))))))))))))))))))))))))))))))))))))))))))))))))))))))))))))))))))))
noncomputable def cfX (d : Nat) : CF := cfB fns d
theorem cfX_ok (d : Nat) (f : FuncId) : Sd Tryz.prog f (cfX d f) := cfB_ok fnsOk d f
end Go.Proofs.Nw.X
end
