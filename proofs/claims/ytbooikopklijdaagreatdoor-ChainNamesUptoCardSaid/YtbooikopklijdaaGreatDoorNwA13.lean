/- Bundle 13: NwXH4, NwFShelf, NwXHE, NwXH, NwXR, NwX4D0, NwX4D1, NwX4D2, NwX4D. -/
import Derived.Test.YtbooikopklijdaaGreatDoorNwA12
import Derived.Shelf.Small.Utf8
import Derived.Shelf.Small.Strs
import Derived.Shelf.Strings.Search1
import Derived.Shelf.Strings.Search2
import Derived.Shelf.Strings.Search3
import Derived.Shelf.Strings.Cut
import Derived.Shelf.LaysM
import Derived.Shelf.Strings.Shaped
import Derived.Shelf.Strings.Runes
import Derived.Shelf.Strings.IndexAny
import Derived.Shelf.Strings.AsciiSet
import Derived.Shelf.Strings.IndexAnyAll
import Derived.Shelf.Unicode.DecodeSlow
import Derived.Test.YtbooikopklijdaaGreatDoorProg
import Derived.Below
set_option linter.constructorNameAsVariable false
set_option linter.unusedVariables false
set_option linter.unusedSimpArgs false
set_option linter.unusedSectionVars false
section
/- printed by xg.py: seat F's functions, 4. -/
open Go Go.RowKit Go.Proofs
set_option linter.unusedVariables false
set_option maxRecDepth 100000
namespace Go.Proofs.Nw.X
open Go.Proofs.Nw.K
-- (*newel/pom.reader).excluded$1$1
noncomputable def s215 (fu : Nat) (cf : CF) (a0 a1 a2 : V) (h : H) (n : Id) (k : KV) : R :=
 evAlloc tbx 63 h n fun v1 h n =>
 evLoad tbx 163 a1 h fun v2 =>
 evLoad tbx 163 a1 h fun v3 =>
 evFa tbx 63 0 v1 fun v4 =>
 evLoad tbx 163 a1 h fun v5 =>
 evFa tbx 63 1 v1 fun v6 =>
 evLoad tbx 163 a1 h fun w38 => cond (eqV 6 w38 v2) (
 evLoad tbx 163 a1 h fun w37 => cond (eqV 6 w37 v3) (
 evLoad tbx 163 a1 h fun w36 => cond (eqV 6 w36 v5) (
 cf 99 [v3, v4] h n fun v7 h n =>
 evLoad tbx 163 a1 h fun w35 => cond (eqV 6 w35 v2) (
 evLoad tbx 163 a1 h fun w34 => cond (eqV 6 w34 v5) (
 cf 99 [v5, v6] h n fun v8 h n =>
 alB n fun n' => litA [((.s 7 29117745638426980), v7), ((.s 10 460180866011107895298404), v8)] fun x mk => 
 (fun (v9 : V) (h : H) (n : Id) =>
 evLoad tbx 163 a1 h fun w33 => cond (eqV 6 w33 v2) (
 ckO (vId v9) h fun id x' => litA [((.s 7 29117745638426980), v7), ((.s 10 460180866011107895298404), v8)] fun x mk => cond (eqO x' x) (cond (eqV 6 (mk id) v9) (
 cf 98 [v2, a0, v9] h n fun v10 h n =>
 evLoad tbx 235 a2 h fun v11 =>
 evLoad tbx 235 a2 h fun v12 =>
 evNc' v12 fun v13 =>
 evLoad tbx 49 v13 h fun v14 =>
 evLoad tbx 63 v1 h fun v15 =>
 evLoad tbx 235 a2 h fun w32 => cond (eqV 6 w32 v11) (
 evLoad tbx 235 a2 h fun w31 => cond (eqV 6 w31 v12) (
 evLoad tbx 49 v13 h fun w30 => cond (eqV 6 w30 v14) (
 evLoad tbx 63 v1 h fun w29 => cond (eqV 6 w29 v15) (
 evBuildSl tbx 49 1 [(0, v15)] h n fun v16 h n =>
 evLoad tbx 235 a2 h fun w28 => cond (eqV 6 w28 v11) (
 evLoad tbx 235 a2 h fun w27 => cond (eqV 6 w27 v12) (
 evLoad tbx 49 v13 h fun w26 => cond (eqV 6 w26 v14) (
 evApp tbx 49 49 v14 v16 h n fun v17 h n =>
 evNc' v11 fun v18 =>
 evLoad tbx 235 a2 h fun w25 => cond (eqV 6 w25 v11) (
 evStore tbx 49 v18 v17 h n fun _ h n =>
 evFa tbx 63 0 v1 fun v19 =>
 evLoad tbx 9 v19 h fun v20 =>
 evFa tbx 63 1 v1 fun v21 =>
 evLoad tbx 9 v21 h fun v22 =>
 evBuildSl tbx 71 2 [(0, v20), (1, v22)] h n fun v23 h n =>
 cf 104 [v10, v23] h n fun v24 h n =>
 k v24 h n) none) none) none) none) none) none) none) none) none) none) none) (mk n) (hset x n h) n') none) none) none) none) none
theorem q215 (fu : Nat) (cf : CF) (a0 a1 a2 : V) (h : H) (n : Id) (k : KV) : evFn tbx mtab (fun cf _ => drF tbx mtab cf) fu cf ⟨Tryz.f215, bd Tryz.f215, [0, 1, 2], [4], (.q .z (.q .z (.q .z (.q .z (.q .z .z)))))⟩ [a0, a1, a2] h n k = s215 fu cf a0 a1 a2 h n k := by kernel_rfl
theorem p215 : PfOk Tryz.prog tbx mtab 215 (w3 (s215 fuX)) := pfo ⟨Tryz.f215, bd Tryz.f215, [0, 1, 2], [4], (.q .z (.q .z (.q .z (.q .z (.q .z .z)))))⟩ Tryz.func215 (by kernel_rfl) (by kernel_rfl) (by kernel_rfl) (by kernel_rfl) (w3_ok fun cf a0 a1 a2 h n k => q215 fuX cf a0 a1 a2 h n k)
-- internal/stringslite.HasPrefix
noncomputable def s223 (fu : Nat) (cf : CF) (a0 a1 : V) (h : H) (n : Id) (k : KV) : R :=
 evLen tbx 9 a0 fun v1 =>
 evLen tbx 9 a1 fun v2 =>
 evBin2 tbx .geq 3 v1 v2 fun v3 =>
 jp (fun (v4 : V) (h : H) (n : Id) =>
 jp (fun (v6 : V) (h : H) (n : Id) =>
 jp (fun (v8 : V) (h : H) (n : Id) =>
 jp (fun (v10 : V) (h : H) (n : Id) =>
 jp (fun (v12 : V) (h : H) (n : Id) =>
 jp (fun (v14 : V) (h : H) (n : Id) =>
 evPick v3 v14 (.b false) fun v16 =>
 k v16 h n) fun kk15 =>
 gdB v3 true ((evBin2 tbx .eql 9 v10 v12 fun v => kk15 v h n)) (kk15 (.tp []) h n)) fun kk13 =>
 gdB v3 true (kk13 a1 h n) (kk13 (.tp []) h n)) fun kk11 =>
 gdB v3 true ((evSlc tbx 9 v4 none (some v8) fun v => kk11 v h n)) (kk11 (.tp []) h n)) fun kk9 =>
 gdB v3 true ((evLen tbx 9 v6 fun v => kk9 v h n)) (kk9 (.tp []) h n)) fun kk7 =>
 gdB v3 true (kk7 a1 h n) (kk7 (.tp []) h n)) fun kk5 =>
 gdB v3 true (kk5 a0 h n) (kk5 (.tp []) h n)
theorem q223 (fu : Nat) (cf : CF) (a0 a1 : V) (h : H) (n : Id) (k : KV) : evFn tbx mtab (fun cf _ => drF tbx mtab cf) fu cf ⟨Tryz.f223, bd Tryz.f223, [0, 1], [4], (.q .z (.q .z .z))⟩ [a0, a1] h n k = s223 fu cf a0 a1 h n k := by kernel_rfl
theorem p223 : PfOk Tryz.prog tbx mtab 223 (w2 (s223 fuX)) := pfo ⟨Tryz.f223, bd Tryz.f223, [0, 1], [4], (.q .z (.q .z .z))⟩ Tryz.func223 (by kernel_rfl) (by kernel_rfl) (by kernel_rfl) (by kernel_rfl) (w2_ok fun cf a0 a1 h n k => q223 fuX cf a0 a1 h n k)
-- strings.Cut
noncomputable def s225 (fu : Nat) (cf : CF) (a0 a1 : V) (h : H) (n : Id) (k : KV) : R :=
 cf 271 [a0, a1] h n fun v1 h n =>
 evExt 0 v1 fun v2 =>
 evExt 1 v1 fun v3 =>
 evExt 2 v1 fun v4 =>
 k (.tp [v2, v3, v4]) h n
theorem q225 (fu : Nat) (cf : CF) (a0 a1 : V) (h : H) (n : Id) (k : KV) : evFn tbx mtab (fun cf _ => drF tbx mtab cf) fu cf ⟨Tryz.f225, bd Tryz.f225, [0, 1], [4, 5, 6], (.q .z (.q .z .z))⟩ [a0, a1] h n k = s225 fu cf a0 a1 h n k := by kernel_rfl
theorem p225 : PfOk Tryz.prog tbx mtab 225 (w2 (s225 fuX)) := pfo ⟨Tryz.f225, bd Tryz.f225, [0, 1], [4, 5, 6], (.q .z (.q .z .z))⟩ Tryz.func225 (by kernel_rfl) (by kernel_rfl) (by kernel_rfl) (by kernel_rfl) (w2_ok fun cf a0 a1 h n k => q225 fuX cf a0 a1 h n k)
-- internal/stringslite.CutPrefix
noncomputable def s228 (fu : Nat) (cf : CF) (a0 a1 : V) (h : H) (n : Id) (k : KV) : R :=
 cf 223 [a0, a1] h n fun v1 h n =>
 evUn .not v1 fun v2 =>
 brB v2 (
 k (.tp [a0, (.b false)]) h n) (
 evLen tbx 9 a1 fun v3 =>
 evSlc tbx 9 a0 (some v3) none fun v4 =>
 k (.tp [v4, (.b true)]) h n)
theorem q228 (fu : Nat) (cf : CF) (a0 a1 : V) (h : H) (n : Id) (k : KV) : evFn tbx mtab (fun cf _ => drF tbx mtab cf) fu cf ⟨Tryz.f228, bd Tryz.f228, [0, 1], [4, 5], (.q .z (.q (.q .z (.c (.q .z .z) .z)) (.q .z .z)))⟩ [a0, a1] h n k = s228 fu cf a0 a1 h n k := by kernel_rfl
theorem p228 : PfOk Tryz.prog tbx mtab 228 (w2 (s228 fuX)) := pfo ⟨Tryz.f228, bd Tryz.f228, [0, 1], [4, 5], (.q .z (.q (.q .z (.c (.q .z .z) .z)) (.q .z .z)))⟩ Tryz.func228 (by kernel_rfl) (by kernel_rfl) (by kernel_rfl) (by kernel_rfl) (w2_ok fun cf a0 a1 h n k => q228 fuX cf a0 a1 h n k)
-- cmp.isNaN[int]
noncomputable def s236 (fu : Nat) (cf : CF) (a0 : V) (h : H) (n : Id) (k : KV) : R :=
 evBin2 tbx .neq 3 a0 a0 fun v1 =>
 k v1 h n
theorem q236 (fu : Nat) (cf : CF) (a0 : V) (h : H) (n : Id) (k : KV) : evFn tbx mtab (fun cf _ => drF tbx mtab cf) fu cf ⟨Tryz.f236, bd Tryz.f236, [0], [2], (.q .z (.q .z .z))⟩ [a0] h n k = s236 fu cf a0 h n k := by kernel_rfl
theorem p236 : PfOk Tryz.prog tbx mtab 236 (w1 (s236 fuX)) := pfo ⟨Tryz.f236, bd Tryz.f236, [0], [2], (.q .z (.q .z .z))⟩ Tryz.func236 (by kernel_rfl) (by kernel_rfl) (by kernel_rfl) (by kernel_rfl) (w1_ok fun cf a0 h n k => q236 fuX cf a0 h n k)
-- strings.trimLeftByte
noncomputable def s237 (fu : Nat) (cf : CF) (a0 a1 : V) (h : H) (n : Id) (k : KV) : R :=
 jp (fun (s1 : VT [0]) (h : H) (n : Id) =>
 pc s1 fun v3 s4 =>
 k v3 h n) fun kk2 =>
 lpC [0, 1] (fun lo6 s5 h n =>
 pc s5 fun v7 s8 =>
 pc s8 fun v9 s10 =>
 evLen tbx 9 v7 fun v11 =>
 evBin2 tbx .gtr 3 v11 (.i .i64 0) fun v12 =>
 jp (fun (v13 : V) (h : H) (n : Id) =>
 jp (fun (v15 : V) (h : H) (n : Id) =>
 jp (fun (v17 : V) (h : H) (n : Id) =>
 jp (fun (v19 : V) (h : H) (n : Id) =>
 evPick v12 v19 (.b false) fun v21 =>
 brB v21 (
 jp (fun (s22 : VT [0, 1]) (h : H) (n : Id) =>
 pc s22 fun v24 s25 =>
 pc s25 fun v26 s27 =>
 lo6 (v24, v26, ()) h n) fun kk23 =>
 evSlc tbx 9 v7 (some (.i .i64 1)) none fun v28 =>
 kk23 (v28, v9, ()) h n) (
 kk2 (v7, ()) h n)) fun kk20 =>
 gdB v12 true ((evBin2 tbx .eql 5 v15 v17 fun v => kk20 v h n)) (kk20 (.tp []) h n)) fun kk18 =>
 gdB v12 true (kk18 v9 h n) (kk18 (.tp []) h n)) fun kk16 =>
 gdB v12 true ((evIx tbx 9 v13 (.i .i64 0) fun v => kk16 v h n)) (kk16 (.tp []) h n)) fun kk14 =>
 gdB v12 true (kk14 v7 h n) (kk14 (.tp []) h n)) fu (a0, a1, ()) h n
theorem q237 (fu : Nat) (cf : CF) (a0 a1 : V) (h : H) (n : Id) (k : KV) : evFn tbx mtab (fun cf _ => drF tbx mtab cf) fu cf ⟨Tryz.f237, bd Tryz.f237, [0, 1], [4], (.q .z (.q (.b [0] (.l [0, 1] (.q (.q .z (.c .z .z)) (.b [0, 1] .z)))) (.q .z .z)))⟩ [a0, a1] h n k = s237 fu cf a0 a1 h n k := by kernel_rfl
theorem p237 : PfOk Tryz.prog tbx mtab 237 (w2 (s237 fuX)) := pfo ⟨Tryz.f237, bd Tryz.f237, [0, 1], [4], (.q .z (.q (.b [0] (.l [0, 1] (.q (.q .z (.c .z .z)) (.b [0, 1] .z)))) (.q .z .z)))⟩ Tryz.func237 (by kernel_rfl) (by kernel_rfl) (by kernel_rfl) (by kernel_rfl) (w2_ok fun cf a0 a1 h n k => q237 fuX cf a0 a1 h n k)
-- strings.makeASCIISet
noncomputable def s238 (fu : Nat) (cf : CF) (a0 : V) (h : H) (n : Id) (k : KV) : R :=
 evAlloc tbx 293 h n fun v1 h n =>
 jp (fun (s2 : VT [2]) (h : H) (n : Id) =>
 pc s2 fun v4 s5 =>
 evLoad tbx 293 v4 h fun v6 =>
 evStore tbx 293 v4 v6 h n fun _ h n =>
 evLoad tbx 293 v4 h fun v7 =>
 k (.tp [v7, (.b true)]) h n) fun kk3 =>
 lpC [0, 2, 4] (fun lo9 s8 h n =>
 pc s8 fun v10 s11 =>
 pc s11 fun v12 s13 =>
 pc s13 fun v14 s15 =>
 evLen tbx 9 v10 fun v16 =>
 evBin2 tbx .lss 3 v14 v16 fun v17 =>
 brB v17 (
 jp (fun (s18 : VT [0, 2, 4]) (h : H) (n : Id) =>
 pc s18 fun v20 s21 =>
 pc s21 fun v22 s23 =>
 pc s23 fun v24 s25 =>
 evBin2 tbx .add 3 v24 (.i .i64 1) fun v26 =>
 lo9 (v20, v22, v26, ()) h n) fun kk19 =>
 evIx tbx 9 v10 v14 fun v27 =>
 evBin2 tbx .geq 5 v27 (.i .u8 128) fun v28 =>
 brB v28 (
 evLoad tbx 293 v12 h fun v29 =>
 evStore tbx 293 v12 v29 h n fun _ h n =>
 evLoad tbx 293 v12 h fun v30 =>
 k (.tp [v30, (.b false)]) h n) (
 evIa tbx 293 v12 v27 fun v31 =>
 evStore tbx 4 v31 (.b true) h n fun _ h n =>
 kk19 (v10, v12, v14, ()) h n)) (
 kk3 (v12, ()) h n)) fu (a0, v1, (.i .i64 0), ()) h n
theorem q238 (fu : Nat) (cf : CF) (a0 : V) (h : H) (n : Id) (k : KV) : evFn tbx mtab (fun cf _ => drF tbx mtab cf) fu cf ⟨Tryz.f238, bd Tryz.f238, [0], [2, 3], (.q .z (.q (.q .z (.b [2] (.l [0, 2, 4] (.q (.q .z (.c .z .z)) (.q (.b [0, 2, 4] (.q .z (.q (.q .z (.c (.q .z .z) .z)) .z))) .z))))) (.q .z .z)))⟩ [a0] h n k = s238 fu cf a0 h n k := by kernel_rfl
theorem p238 : PfOk Tryz.prog tbx mtab 238 (w1 (s238 fuX)) := pfo ⟨Tryz.f238, bd Tryz.f238, [0], [2, 3], (.q .z (.q (.q .z (.b [2] (.l [0, 2, 4] (.q (.q .z (.c .z .z)) (.q (.b [0, 2, 4] (.q .z (.q (.q .z (.c (.q .z .z) .z)) .z))) .z))))) (.q .z .z)))⟩ Tryz.func238 (by kernel_rfl) (by kernel_rfl) (by kernel_rfl) (by kernel_rfl) (w1_ok fun cf a0 h n k => q238 fuX cf a0 h n k)
-- (*newel/token.walk).put
noncomputable def s244 (fu : Nat) (cf : CF) (a0 a1 : V) (h : H) (n : Id) (k : KV) : R :=
 evBox a1 h n fun v1 h n =>
 evNc' a0 fun v2 =>
 evFa tbx 214 1 v2 fun v3 =>
 evLoad tbx 155 v3 h fun v4 =>
 evLoad tbx 222 v1 h fun v5 =>
 evLoad tbx 155 v3 h fun w12 => cond (eqV 6 w12 v4) (
 evLoad tbx 222 v1 h fun w11 => cond (eqV 6 w11 v5) (
 evBuildSl tbx 155 1 [(0, v5)] h n fun v6 h n =>
 evLoad tbx 155 v3 h fun w10 => cond (eqV 6 w10 v4) (
 evApp tbx 155 155 v4 v6 h n fun v7 h n =>
 evNc' a0 fun v8 =>
 evFa tbx 214 1 v8 fun v9 =>
 evStore tbx 155 v9 v7 h n fun _ h n =>
 k (.b true) h n) none) none) none
theorem q244 (fu : Nat) (cf : CF) (a0 a1 : V) (h : H) (n : Id) (k : KV) : evFn tbx mtab (fun cf _ => drF tbx mtab cf) fu cf ⟨Tryz.f244, bd Tryz.f244, [0, 1], [4], (.q .z (.q .z (.q .z .z)))⟩ [a0, a1] h n k = s244 fu cf a0 a1 h n k := by kernel_rfl
theorem p244 : PfOk Tryz.prog tbx mtab 244 (w2 (s244 fuX)) := pfo ⟨Tryz.f244, bd Tryz.f244, [0, 1], [4], (.q .z (.q .z (.q .z .z)))⟩ Tryz.func244 (by kernel_rfl) (by kernel_rfl) (by kernel_rfl) (by kernel_rfl) (w2_ok fun cf a0 a1 h n k => q244 fuX cf a0 a1 h n k)
-- (*newel/token.walk).name
noncomputable def s245 (fu : Nat) (cf : CF) (a0 : V) (h : H) (n : Id) (k : KV) : R :=
 evNc' a0 fun v1 =>
 evFa tbx 214 0 v1 fun v2 =>
 evLoad tbx 9 v2 h fun v3 =>
 cf 255 [v3] h n fun v4 h n =>
 evNc' a0 fun v5 =>
 evFa tbx 214 0 v5 fun v6 =>
 evLoad tbx 9 v6 h fun v7 =>
 evLen tbx 9 v4 fun v8 =>
 evSlc tbx 9 v7 (some v8) none fun v9 =>
 evNc' a0 fun v10 =>
 evFa tbx 214 0 v10 fun v11 =>
 evStore tbx 9 v11 v9 h n fun _ h n =>
 k v4 h n
theorem q245 (fu : Nat) (cf : CF) (a0 : V) (h : H) (n : Id) (k : KV) : evFn tbx mtab (fun cf _ => drF tbx mtab cf) fu cf ⟨Tryz.f245, bd Tryz.f245, [0], [2], (.q .z (.q .z (.q .z (.q .z .z))))⟩ [a0] h n k = s245 fu cf a0 h n k := by kernel_rfl
theorem p245 : PfOk Tryz.prog tbx mtab 245 (w1 (s245 fuX)) := pfo ⟨Tryz.f245, bd Tryz.f245, [0], [2], (.q .z (.q .z (.q .z (.q .z .z))))⟩ Tryz.func245 (by kernel_rfl) (by kernel_rfl) (by kernel_rfl) (by kernel_rfl) (w1_ok fun cf a0 h n k => q245 fuX cf a0 h n k)
-- (*newel/token.walk).skip
noncomputable def s246 (fu : Nat) (cf : CF) (a0 : V) (h : H) (n : Id) (k : KV) : R :=
 jp (fun (s1 : VT [0, 3]) (h : H) (n : Id) =>
 pc s1 fun v3 s4 =>
 pc s4 fun v5 s6 =>
 evNc' v3 fun v7 =>
 evFa tbx 214 0 v7 fun v8 =>
 evLoad tbx 9 v8 h fun v9 =>
 evSlc tbx 9 v9 (some v5) none fun v10 =>
 evNc' v3 fun v11 =>
 evFa tbx 214 0 v11 fun v12 =>
 evStore tbx 9 v12 v10 h n fun _ h n =>
 evBin2 tbx .gtr 3 v5 (.i .i64 0) fun v13 =>
 k v13 h n) fun kk2 =>
 lpC [0, 3] (fun lo15 s14 h n =>
 pc s14 fun v16 s17 =>
 pc s17 fun v18 s19 =>
 evNc' v16 fun v20 =>
 evFa tbx 214 0 v20 fun v21 =>
 evLoad tbx 9 v21 h fun v22 =>
 evLen tbx 9 v22 fun v23 =>
 evBin2 tbx .lss 3 v18 v23 fun v24 =>
 jp (fun (v25 : V) (h : H) (n : Id) =>
 jp (fun (v27 : V) (h : H) (n : Id) =>
 jp (fun (v29 : V) (h : H) (n : Id) =>
 jp (fun (v31 : V) (h : H) (n : Id) =>
 jp (fun (v33 : V) (h : H) (n : Id) =>
 jp (fun (v35 : V) (h : H) (n : Id) =>
 jp (fun (v37 : V) (h : H) (n : Id) =>
 evPick v24 v37 (.b false) fun v39 =>
 brB v39 (
 jp (fun (s40 : VT [0, 3]) (h : H) (n : Id) =>
 pc s40 fun v42 s43 =>
 pc s43 fun v44 s45 =>
 lo15 (v42, v44, ()) h n) fun kk41 =>
 evBin2 tbx .add 3 v18 (.i .i64 1) fun v46 =>
 kk41 (v16, v46, ()) h n) (
 kk2 (v16, v18, ()) h n)) fun kk38 =>
 gdB v24 true ((cf 195 [v35] h n kk38)) (kk38 (.tp []) h n)) fun kk36 =>
 gdB v24 true ((evIx tbx 9 v31 v33 fun v => kk36 v h n)) (kk36 (.tp []) h n)) fun kk34 =>
 gdB v24 true (kk34 v18 h n) (kk34 (.tp []) h n)) fun kk32 =>
 gdB v24 true ((evLoad tbx 9 v29 h fun v => kk32 v h n)) (kk32 (.tp []) h n)) fun kk30 =>
 gdB v24 true ((evFa tbx 214 0 v27 fun v => kk30 v h n)) (kk30 (.tp []) h n)) fun kk28 =>
 gdB v24 true ((evNc' v25 fun v => kk28 v h n)) (kk28 (.tp []) h n)) fun kk26 =>
 gdB v24 true (kk26 v16 h n) (kk26 (.tp []) h n)) fu (a0, (.i .i64 0), ()) h n
theorem q246 (fu : Nat) (cf : CF) (a0 : V) (h : H) (n : Id) (k : KV) : evFn tbx mtab (fun cf _ => drF tbx mtab cf) fu cf ⟨Tryz.f246, bd Tryz.f246, [0], [2], (.q .z (.q .z (.q (.b [0, 3] (.l [0, 3] (.q (.q .z (.c .z .z)) (.b [0, 3] .z)))) (.q .z (.q .z .z)))))⟩ [a0] h n k = s246 fu cf a0 h n k := by kernel_rfl
theorem p246 : PfOk Tryz.prog tbx mtab 246 (w1 (s246 fuX)) := pfo ⟨Tryz.f246, bd Tryz.f246, [0], [2], (.q .z (.q .z (.q (.b [0, 3] (.l [0, 3] (.q (.q .z (.c .z .z)) (.b [0, 3] .z)))) (.q .z (.q .z .z)))))⟩ Tryz.func246 (by kernel_rfl) (by kernel_rfl) (by kernel_rfl) (by kernel_rfl) (w1_ok fun cf a0 h n k => q246 fuX cf a0 h n k)
-- slices.ContainsFunc[[]newel/api.Attr,newel/api.Attr]
noncomputable def s248 (fu : Nat) (cf : CF) (a0 a1 : V) (h : H) (n : Id) (k : KV) : R :=
 cf 289 [a0, a1] h n fun v1 h n =>
 evBin2 tbx .geq 3 v1 (.i .i64 0) fun v2 =>
 k v2 h n
theorem q248 (fu : Nat) (cf : CF) (a0 a1 : V) (h : H) (n : Id) (k : KV) : evFn tbx mtab (fun cf _ => drF tbx mtab cf) fu cf ⟨Tryz.f248, bd Tryz.f248, [0, 1], [4], (.q .z (.q .z .z))⟩ [a0, a1] h n k = s248 fu cf a0 a1 h n k := by kernel_rfl
theorem p248 : PfOk Tryz.prog tbx mtab 248 (w2 (s248 fuX)) := pfo ⟨Tryz.f248, bd Tryz.f248, [0, 1], [4], (.q .z (.q .z .z))⟩ Tryz.func248 (by kernel_rfl) (by kernel_rfl) (by kernel_rfl) (by kernel_rfl) (w2_ok fun cf a0 a1 h n k => q248 fuX cf a0 a1 h n k)
-- (*newel/token.walk).begin$1
noncomputable def s249 (fu : Nat) (cf : CF) (a0 a1 : V) (h : H) (n : Id) (k : KV) : R :=
 evBox a0 h n fun v1 h n =>
 evFa tbx 303 0 v1 fun v2 =>
 evLoad tbx 9 v2 h fun v3 =>
 evFa tbx 303 0 a1 fun v4 =>
 evLoad tbx 9 v4 h fun v5 =>
 evBin2 tbx .eql 9 v3 v5 fun v6 =>
 k v6 h n
theorem q249 (fu : Nat) (cf : CF) (a0 a1 : V) (h : H) (n : Id) (k : KV) : evFn tbx mtab (fun cf _ => drF tbx mtab cf) fu cf ⟨Tryz.f249, bd Tryz.f249, [0, 1], [3], (.q .z (.q .z .z))⟩ [a0, a1] h n k = s249 fu cf a0 a1 h n k := by kernel_rfl
theorem p249 : PfOk Tryz.prog tbx mtab 249 (w2 (s249 fuX)) := pfo ⟨Tryz.f249, bd Tryz.f249, [0, 1], [3], (.q .z (.q .z .z))⟩ Tryz.func249 (by kernel_rfl) (by kernel_rfl) (by kernel_rfl) (by kernel_rfl) (w2_ok fun cf a0 a1 h n k => q249 fuX cf a0 a1 h n k)
-- newel/token.Entities
noncomputable def s250 (fu : Nat) (cf : CF) (a0 : V) (h : H) (n : Id) (k : KV) : R :=
 evAlloc tbx 314 h n fun v1 h n =>
 jp (fun (s2 : VT [2, 3]) (h : H) (n : Id) =>
 pc s2 fun v4 s5 =>
 pc s5 fun v6 s7 =>
 k (.tp [v4, v6]) h n) fun kk3 =>
 lpC [0, 4] (fun lo9 s8 h n =>
 pc s8 fun v10 s11 =>
 pc s11 fun v12 s13 =>
 jp (fun (s14 : VT [0, 4]) (h : H) (n : Id) =>
 pc s14 fun v16 s17 =>
 pc s17 fun v18 s19 =>
 lo9 (v16, v18, ()) h n) fun kk15 =>
 cf 225 [v10, (.s 1 38)] h n fun v20 h n =>
 evExt 0 v20 fun v21 =>
 evExt 1 v20 fun v22 =>
 evExt 2 v20 fun v23 =>
 cf 257 [v12, v21] h n fun v24 h n =>
 evUn .not v23 fun v25 =>
 brB v25 (
 cf 258 [v12] h n fun v26 h n =>
 k (.tp [v26, (.i .i64 0)]) h n) (
 cf 225 [v22, (.s 1 59)] h n fun v27 h n =>
 evExt 0 v27 fun v28 =>
 evExt 1 v27 fun v29 =>
 evExt 2 v27 fun v30 =>
 cf 290 [v28] h n fun v31 h n =>
 evExt 0 v31 fun v32 =>
 evExt 1 v31 fun v33 =>
 evUn .not v30 fun v34 =>
 jp (fun (v35 : V) (h : H) (n : Id) =>
 jp (fun (v37 : V) (h : H) (n : Id) =>
 evPick v34 (.b true) v37 fun v39 =>
 brB v39 (
 k (.tp [(.s 0 0), (.i .i64 5)]) h n) (
 cf 257 [v12, v32] h n fun v40 h n =>
 kk15 (v29, v12, ()) h n)) fun kk38 =>
 gdB v34 false ((evUn .not v35 fun v => kk38 v h n)) (kk38 (.tp []) h n)) fun kk36 =>
 gdB v34 false (kk36 v33 h n) (kk36 (.tp []) h n))) fu (a0, v1, ()) h n
theorem q250 (fu : Nat) (cf : CF) (a0 : V) (h : H) (n : Id) (k : KV) : evFn tbx mtab (fun cf _ => drF tbx mtab cf) fu cf ⟨Tryz.f250, bd Tryz.f250, [0], [2, 3], (.q .z (.q .z (.b [2, 3] (.l [0, 4] (.b [0, 4] (.q .z (.q .z (.q (.q .z (.c (.q .z .z) .z)) (.q .z (.q .z (.q (.q .z (.c (.q .z .z) .z)) (.q .z .z))))))))))))⟩ [a0] h n k = s250 fu cf a0 h n k := by kernel_rfl
theorem p250 : PfOk Tryz.prog tbx mtab 250 (w1 (s250 fuX)) := pfo ⟨Tryz.f250, bd Tryz.f250, [0], [2, 3], (.q .z (.q .z (.b [2, 3] (.l [0, 4] (.b [0, 4] (.q .z (.q .z (.q (.q .z (.c (.q .z .z) .z)) (.q .z (.q .z (.q (.q .z (.c (.q .z .z) .z)) (.q .z .z))))))))))))⟩ Tryz.func250 (by kernel_rfl) (by kernel_rfl) (by kernel_rfl) (by kernel_rfl) (w1_ok fun cf a0 h n k => q250 fuX cf a0 h n k)
-- (*newel/element.builder).put
noncomputable def s251 (fu : Nat) (cf : CF) (a0 a1 : V) (h : H) (n : Id) (k : KV) : R :=
 evBox a1 h n fun v1 h n =>
 evNc' a0 fun v2 =>
 evFa tbx 219 0 v2 fun v3 =>
 evLoad tbx 114 v3 h fun v4 =>
 evLen tbx 114 v4 fun v5 =>
 evBin2 tbx .geq 3 v5 (.i .i64 2000) fun v6 =>
 brB v6 (
 k (.i .i64 3) h n) (
 cf 253 [a0] h n fun v7 h n =>
 evFa tbx 162 0 v1 fun v8 =>
 evStore tbx 3 v8 v7 h n fun _ h n =>
 evNc' a0 fun v9 =>
 evFa tbx 219 2 v9 fun v10 =>
 evLoad tbx 217 v10 h fun v11 =>
 evFa tbx 162 0 v1 fun v12 =>
 evLoad tbx 3 v12 h fun v13 =>
 evNc' a0 fun v14 =>
 evFa tbx 219 0 v14 fun v15 =>
 evLoad tbx 114 v15 h fun v16 =>
 evLen tbx 114 v16 fun v17 =>
 evLoad tbx 217 v10 h fun w31 => cond (eqV 6 w31 v11) (
 evLoad tbx 3 v12 h fun w30 => cond (eqV 6 w30 v13) (
 evLoad tbx 114 v15 h fun w29 => cond (eqV 6 w29 v16) (
 evMapUpd mtab 217 v11 v13 v17 h n fun _ h n =>
 evNc' a0 fun v18 =>
 evFa tbx 219 0 v18 fun v19 =>
 evLoad tbx 114 v19 h fun v20 =>
 evLoad tbx 162 v1 h fun v21 =>
 evLoad tbx 114 v19 h fun w28 => cond (eqV 6 w28 v20) (
 evLoad tbx 162 v1 h fun w27 => cond (eqV 6 w27 v21) (
 evBuildSl tbx 114 1 [(0, v21)] h n fun v22 h n =>
 evLoad tbx 114 v19 h fun w26 => cond (eqV 6 w26 v20) (
 evApp tbx 114 114 v20 v22 h n fun v23 h n =>
 evNc' a0 fun v24 =>
 evFa tbx 219 0 v24 fun v25 =>
 evStore tbx 114 v25 v23 h n fun _ h n =>
 k (.i .i64 0) h n) none) none) none) none) none) none)
theorem q251 (fu : Nat) (cf : CF) (a0 a1 : V) (h : H) (n : Id) (k : KV) : evFn tbx mtab (fun cf _ => drF tbx mtab cf) fu cf ⟨Tryz.f251, bd Tryz.f251, [0, 1], [4], (.q .z (.q (.q .z (.c (.q .z .z) .z)) (.q .z (.q .z (.q .z (.q .z .z))))))⟩ [a0, a1] h n k = s251 fu cf a0 a1 h n k := by kernel_rfl
theorem p251 : PfOk Tryz.prog tbx mtab 251 (w2 (s251 fuX)) := pfo ⟨Tryz.f251, bd Tryz.f251, [0, 1], [4], (.q .z (.q (.q .z (.c (.q .z .z) .z)) (.q .z (.q .z (.q .z (.q .z .z))))))⟩ Tryz.func251 (by kernel_rfl) (by kernel_rfl) (by kernel_rfl) (by kernel_rfl) (w2_ok fun cf a0 a1 h n k => q251 fuX cf a0 a1 h n k)
-- slices.Clone[[]newel/api.Attr,newel/api.Attr]
noncomputable def s252 (fu : Nat) (cf : CF) (a0 : V) (h : H) (n : Id) (k : KV) : R :=
 evBin2 tbx .eql 160 a0 .ns fun v1 =>
 brB v1 (
 k .ns h n) (
 evBuildSl tbx 160 0 [] h n fun v2 h n =>
 evApp tbx 160 160 v2 a0 h n fun v3 h n =>
 k v3 h n)
theorem q252 (fu : Nat) (cf : CF) (a0 : V) (h : H) (n : Id) (k : KV) : evFn tbx mtab (fun cf _ => drF tbx mtab cf) fu cf ⟨Tryz.f252, bd Tryz.f252, [0], [2], (.q .z (.q (.q .z (.c (.q .z .z) .z)) (.q .z .z)))⟩ [a0] h n k = s252 fu cf a0 h n k := by kernel_rfl
theorem p252 : PfOk Tryz.prog tbx mtab 252 (w1 (s252 fuX)) := pfo ⟨Tryz.f252, bd Tryz.f252, [0], [2], (.q .z (.q (.q .z (.c (.q .z .z) .z)) (.q .z .z)))⟩ Tryz.func252 (by kernel_rfl) (by kernel_rfl) (by kernel_rfl) (by kernel_rfl) (w1_ok fun cf a0 h n k => q252 fuX cf a0 h n k)
-- (*newel/element.builder).inner
noncomputable def s253 (fu : Nat) (cf : CF) (a0 : V) (h : H) (n : Id) (k : KV) : R :=
 evNc' a0 fun v1 =>
 evFa tbx 219 1 v1 fun v2 =>
 evLoad tbx 149 v2 h fun v3 =>
 evLen tbx 149 v3 fun v4 =>
 evBin2 tbx .eql 3 v4 (.i .i64 0) fun v5 =>
 brB v5 (
 k (.i .i64 (-1)) h n) (
 evNc' a0 fun v6 =>
 evFa tbx 219 1 v6 fun v7 =>
 evLoad tbx 149 v7 h fun v8 =>
 evNc' a0 fun v9 =>
 evFa tbx 219 1 v9 fun v10 =>
 evLoad tbx 149 v10 h fun v11 =>
 evLen tbx 149 v11 fun v12 =>
 evBin2 tbx .sub 3 v12 (.i .i64 1) fun v13 =>
 evIa tbx 149 v8 v13 fun v14 =>
 evLoad tbx 3 v14 h fun v15 =>
 evLoad tbx 149 v7 h fun w18 => cond (eqV 6 w18 v8) (
 evLoad tbx 149 v10 h fun w17 => cond (eqV 6 w17 v11) (
 evLoad tbx 3 v14 h fun w16 => cond (eqV 6 w16 v15) (
 k v15 h n) none) none) none)
theorem q253 (fu : Nat) (cf : CF) (a0 : V) (h : H) (n : Id) (k : KV) : evFn tbx mtab (fun cf _ => drF tbx mtab cf) fu cf ⟨Tryz.f253, bd Tryz.f253, [0], [2], (.q .z (.q (.q .z (.c (.q .z .z) .z)) (.q .z .z)))⟩ [a0] h n k = s253 fu cf a0 h n k := by kernel_rfl
theorem p253 : PfOk Tryz.prog tbx mtab 253 (w1 (s253 fuX)) := pfo ⟨Tryz.f253, bd Tryz.f253, [0], [2], (.q .z (.q (.q .z (.c (.q .z .z) .z)) (.q .z .z)))⟩ Tryz.func253 (by kernel_rfl) (by kernel_rfl) (by kernel_rfl) (by kernel_rfl) (w1_ok fun cf a0 h n k => q253 fuX cf a0 h n k)
-- newel/markup.allowed$1
noncomputable def s254 (fu : Nat) (cf : CF) (a0 : V) (h : H) (n : Id) (k : KV) : R :=
 cf 140 [a0] h n fun v1 h n =>
 evUn .not v1 fun v2 =>
 k v2 h n
theorem q254 (fu : Nat) (cf : CF) (a0 : V) (h : H) (n : Id) (k : KV) : evFn tbx mtab (fun cf _ => drF tbx mtab cf) fu cf ⟨Tryz.f254, bd Tryz.f254, [0], [2], (.q .z (.q .z .z))⟩ [a0] h n k = s254 fu cf a0 h n k := by kernel_rfl
theorem p254 : PfOk Tryz.prog tbx mtab 254 (w1 (s254 fuX)) := pfo ⟨Tryz.f254, bd Tryz.f254, [0], [2], (.q .z (.q .z .z))⟩ Tryz.func254 (by kernel_rfl) (by kernel_rfl) (by kernel_rfl) (by kernel_rfl) (w1_ok fun cf a0 h n k => q254 fuX cf a0 h n k)
-- newel/chars.Head
noncomputable def s255 (fu : Nat) (cf : CF) (a0 : V) (h : H) (n : Id) (k : KV) : R :=
 jp (fun (s3 : VT [2]) (h : H) (n : Id) =>
 pc s3 fun v6 s7 =>
 k v6 h n) fun kk1 =>
 jp (lpC [0, 3] (fun lo5 s4 h n =>
 pc s4 fun v8 s9 =>
 pc s9 fun v10 s11 =>
 evLen tbx 9 v8 fun v12 =>
 evBin2 tbx .lss 3 v10 v12 fun v13 =>
 jp (fun (v14 : V) (h : H) (n : Id) =>
 jp (fun (v16 : V) (h : H) (n : Id) =>
 jp (fun (v18 : V) (h : H) (n : Id) =>
 jp (fun (v20 : V) (h : H) (n : Id) =>
 evPick v13 v20 (.b false) fun v22 =>
 brB v22 (
 evBin2 tbx .add 3 v10 (.i .i64 1) fun v23 =>
 lo5 (v8, v23, ()) h n) (
 evSlc tbx 9 v8 none (some v10) fun v24 =>
 k v24 h n)) fun kk21 =>
 gdB v13 true ((cf 292 [v18] h n kk21)) (kk21 (.tp []) h n)) fun kk19 =>
 gdB v13 true ((evIx tbx 9 v14 v16 fun v => kk19 v h n)) (kk19 (.tp []) h n)) fun kk17 =>
 gdB v13 true (kk17 v10 h n) (kk17 (.tp []) h n)) fun kk15 =>
 gdB v13 true (kk15 v8 h n) (kk15 (.tp []) h n)) fu) fun lo2 =>
 evBin2 tbx .eql 9 a0 (.s 0 0) fun v25 =>
 jp (fun (v26 : V) (h : H) (n : Id) =>
 jp (fun (v28 : V) (h : H) (n : Id) =>
 jp (fun (v30 : V) (h : H) (n : Id) =>
 jp (fun (v32 : V) (h : H) (n : Id) =>
 evPick v25 (.b true) v32 fun v34 =>
 brB v34 (
 k (.s 0 0) h n) (
 evLen tbx 9 a0 fun v35 =>
 evBin2 tbx .lss 3 (.i .i64 1) v35 fun v36 =>
 jp (fun (v37 : V) (h : H) (n : Id) =>
 jp (fun (v39 : V) (h : H) (n : Id) =>
 jp (fun (v41 : V) (h : H) (n : Id) =>
 jp (fun (v43 : V) (h : H) (n : Id) =>
 evPick v36 v43 (.b false) fun v45 =>
 brB v45 (
 evBin2 tbx .add 3 (.i .i64 1) (.i .i64 1) fun v46 =>
 lo2 (a0, v46, ()) h n) (
 evSlc tbx 9 a0 none (some (.i .i64 1)) fun v47 =>
 k v47 h n)) fun kk44 =>
 gdB v36 true ((cf 292 [v41] h n kk44)) (kk44 (.tp []) h n)) fun kk42 =>
 gdB v36 true ((evIx tbx 9 v37 v39 fun v => kk42 v h n)) (kk42 (.tp []) h n)) fun kk40 =>
 gdB v36 true (kk40 (.i .i64 1) h n) (kk40 (.tp []) h n)) fun kk38 =>
 gdB v36 true (kk38 a0 h n) (kk38 (.tp []) h n))) fun kk33 =>
 gdB v25 false ((evUn .not v30 fun v => kk33 v h n)) (kk33 (.tp []) h n)) fun kk31 =>
 gdB v25 false ((cf 291 [v28] h n kk31)) (kk31 (.tp []) h n)) fun kk29 =>
 gdB v25 false ((evIx tbx 9 v26 (.i .i64 0) fun v => kk29 v h n)) (kk29 (.tp []) h n)) fun kk27 =>
 gdB v25 false (kk27 a0 h n) (kk27 (.tp []) h n)
theorem q255 (fu : Nat) (cf : CF) (a0 : V) (h : H) (n : Id) (k : KV) : evFn tbx mtab (fun cf _ => drF tbx mtab cf) fu cf ⟨Tryz.f255, bd Tryz.f255, [0], [2], (.q .z (.g 0 [0, 3] [2] (.q (.q .z (.c (.q .z .z) .z)) (.q .z (.q .z (.q (.q .z (.c (.q .z .z) .z)) (.q .z .z))))) (.q .z (.q (.q .z (.c (.q .z .z) .z)) (.q .z .z)))))⟩ [a0] h n k = s255 fu cf a0 h n k := by kernel_rfl
theorem p255 : PfOk Tryz.prog tbx mtab 255 (w1 (s255 fuX)) := pfo ⟨Tryz.f255, bd Tryz.f255, [0], [2], (.q .z (.g 0 [0, 3] [2] (.q (.q .z (.c (.q .z .z) .z)) (.q .z (.q .z (.q (.q .z (.c (.q .z .z) .z)) (.q .z .z))))) (.q .z (.q (.q .z (.c (.q .z .z) .z)) (.q .z .z)))))⟩ Tryz.func255 (by kernel_rfl) (by kernel_rfl) (by kernel_rfl) (by kernel_rfl) (w1_ok fun cf a0 h n k => q255 fuX cf a0 h n k)
-- newel/element.Kids
noncomputable def s256 (fu : Nat) (cf : CF) (a0 a1 : V) (h : H) (n : Id) (k : KV) : R :=
 evLen tbx 114 a0 fun v1 =>
 jp (fun (s2 : VT [5]) (h : H) (n : Id) =>
 pc s2 fun v4 s5 =>
 k v4 h n) fun kk3 =>
 lpC [0, 1, 5, 8, 9, 10] (fun lo7 s6 h n =>
 pc s6 fun v8 s9 =>
 pc s9 fun v10 s11 =>
 pc s11 fun v12 s13 =>
 pc s13 fun v14 s15 =>
 pc s15 fun v16 s17 =>
 pc s17 fun v18 s19 =>
 evBin2 tbx .lss 3 v18 v16 fun v20 =>
 brB v20 (
 jp (fun (s21 : VT [0, 1, 5, 8, 9, 10]) (h : H) (n : Id) =>
 pc s21 fun v23 s24 =>
 pc s24 fun v25 s26 =>
 pc s26 fun v27 s28 =>
 pc s28 fun v29 s30 =>
 pc s30 fun v31 s32 =>
 pc s32 fun v33 s34 =>
 evBin2 tbx .add 3 v33 (.i .i64 1) fun v35 =>
 lo7 (v23, v25, v27, v29, v31, v35, ()) h n) fun kk22 =>
 evIa tbx 114 v14 v18 fun v36 =>
 evLoad tbx 162 v36 h fun v37 =>
 evAlloc tbx 162 h n fun v38 h n =>
 evStore tbx 162 v38 v37 h n fun _ h n =>
 evFa tbx 162 0 v38 fun v39 =>
 evLoad tbx 3 v39 h fun v40 =>
 evBin2 tbx .eql 3 v40 v10 fun v41 =>
 jp (fun (v42 : V) (h : H) (n : Id) =>
 jp (fun (v44 : V) (h : H) (n : Id) =>
 evPick v41 v44 (.b false) fun v46 =>
 jp (fun (v47 : V) (h : H) (n : Id) =>
 jp (fun (v49 : V) (h : H) (n : Id) =>
 jp (fun (v51 : V) (h : H) (n : Id) =>
 jp (fun (v53 : V) (h : H) (n : Id) =>
 evPick v46 v53 (.b false) fun v55 =>
 brB v55 (
 evBuildSl tbx 149 1 [(0, v18)] h n fun v56 h n =>
 evApp tbx 149 149 v12 v56 h n fun v57 h n =>
 kk22 (v8, v10, v57, v14, v16, v18, ()) h n) (
 kk22 (v8, v10, v12, v14, v16, v18, ()) h n)) fun kk54 =>
 gdB v46 true ((evBin2 tbx .lss 3 v47 v51 fun v => kk54 v h n)) (kk54 (.tp []) h n)) fun kk52 =>
 gdB v46 true ((evLen tbx 114 v49 fun v => kk52 v h n)) (kk52 (.tp []) h n)) fun kk50 =>
 gdB v46 true (kk50 v8 h n) (kk50 (.tp []) h n)) fun kk48 =>
 gdB v46 true (kk48 v10 h n) (kk48 (.tp []) h n)) fun kk45 =>
 gdB v41 true ((evBin2 tbx .geq 3 v42 (.i .i64 0) fun v => kk45 v h n)) (kk45 (.tp []) h n)) fun kk43 =>
 gdB v41 true (kk43 v10 h n) (kk43 (.tp []) h n)) (
 kk3 (v12, ()) h n)) fu (a0, a1, .ns, a0, v1, (.i .i64 0), ()) h n
theorem q256 (fu : Nat) (cf : CF) (a0 a1 : V) (h : H) (n : Id) (k : KV) : evFn tbx mtab (fun cf _ => drF tbx mtab cf) fu cf ⟨Tryz.f256, bd Tryz.f256, [0, 1], [4], (.q .z (.q .z (.q (.q .z (.b [5] (.l [0, 1, 5, 8, 9, 10] (.q .z (.q (.c .z .z) (.q (.b [0, 1, 5, 8, 9, 10] (.q .z (.q .z (.c .z .z)))) .z)))))) (.q .z .z))))⟩ [a0, a1] h n k = s256 fu cf a0 a1 h n k := by kernel_rfl
theorem p256 : PfOk Tryz.prog tbx mtab 256 (w2 (s256 fuX)) := pfo ⟨Tryz.f256, bd Tryz.f256, [0, 1], [4], (.q .z (.q .z (.q (.q .z (.b [5] (.l [0, 1, 5, 8, 9, 10] (.q .z (.q (.c .z .z) (.q (.b [0, 1, 5, 8, 9, 10] (.q .z (.q .z (.c .z .z)))) .z)))))) (.q .z .z))))⟩ Tryz.func256 (by kernel_rfl) (by kernel_rfl) (by kernel_rfl) (by kernel_rfl) (w2_ok fun cf a0 a1 h n k => q256 fuX cf a0 a1 h n k)
-- (*strings.Builder).WriteString
noncomputable def s257 (fu : Nat) (cf : CF) (a0 a1 : V) (h : H) (n : Id) (k : KV) : R :=
 cf 293 [a0] h n fun v1 h n =>
 evNc' a0 fun v2 =>
 evFa tbx 314 1 v2 fun v3 =>
 evLoad tbx 73 v3 h fun v4 =>
 evApp tbx 73 9 v4 a1 h n fun v5 h n =>
 evNc' a0 fun v6 =>
 evFa tbx 314 1 v6 fun v7 =>
 evStore tbx 73 v7 v5 h n fun _ h n =>
 evLen tbx 9 a1 fun v8 =>
 k (.tp [v8, .j]) h n
theorem q257 (fu : Nat) (cf : CF) (a0 a1 : V) (h : H) (n : Id) (k : KV) : evFn tbx mtab (fun cf _ => drF tbx mtab cf) fu cf ⟨Tryz.f257, bd Tryz.f257, [0, 1], [4, 5], (.q .z (.q .z (.q .z (.q .z .z))))⟩ [a0, a1] h n k = s257 fu cf a0 a1 h n k := by kernel_rfl
theorem p257 : PfOk Tryz.prog tbx mtab 257 (w2 (s257 fuX)) := pfo ⟨Tryz.f257, bd Tryz.f257, [0, 1], [4, 5], (.q .z (.q .z (.q .z (.q .z .z))))⟩ Tryz.func257 (by kernel_rfl) (by kernel_rfl) (by kernel_rfl) (by kernel_rfl) (w2_ok fun cf a0 a1 h n k => q257 fuX cf a0 a1 h n k)
-- (*strings.Builder).String
noncomputable def s258 (fu : Nat) (cf : CF) (a0 : V) (h : H) (n : Id) (k : KV) : R :=
 evNc' a0 fun v1 =>
 evFa tbx 314 1 v1 fun v2 =>
 evLoad tbx 73 v2 h fun v3 =>
 evSld v3 fun v4 =>
 evNc' a0 fun v5 =>
 evFa tbx 314 1 v5 fun v6 =>
 evLoad tbx 73 v6 h fun v7 =>
 evLen tbx 73 v7 fun v8 =>
 evLoad tbx 73 v2 h fun w11 => cond (eqV 6 w11 v3) (
 evLoad tbx 73 v6 h fun w10 => cond (eqV 6 w10 v7) (
 evUst mtab 352 v4 v8 h n fun v9 h n =>
 k v9 h n) none) none
theorem q258 (fu : Nat) (cf : CF) (a0 : V) (h : H) (n : Id) (k : KV) : evFn tbx mtab (fun cf _ => drF tbx mtab cf) fu cf ⟨Tryz.f258, bd Tryz.f258, [0], [2], (.q .z (.q .z .z))⟩ [a0] h n k = s258 fu cf a0 h n k := by kernel_rfl
theorem p258 : PfOk Tryz.prog tbx mtab 258 (w1 (s258 fuX)) := pfo ⟨Tryz.f258, bd Tryz.f258, [0], [2], (.q .z (.q .z .z))⟩ Tryz.func258 (by kernel_rfl) (by kernel_rfl) (by kernel_rfl) (by kernel_rfl) (w1_ok fun cf a0 h n k => q258 fuX cf a0 h n k)
-- strings.IndexRune
noncomputable def s268 (fu : Nat) (cf : CF) (a0 a1 : V) (h : H) (n : Id) (k : KV) : R :=
 jp (fun (s1 : VT [4]) (h : H) (n : Id) =>
 pc s1 fun v3 s4 =>
 k v3 h n) fun kk2 =>
 evBin2 tbx .leq 21 (.i .i32 0) a1 fun v5 =>
 jp (fun (v6 : V) (h : H) (n : Id) =>
 jp (fun (v8 : V) (h : H) (n : Id) =>
 evPick v5 v8 (.b false) fun v10 =>
 brB v10 (
 evConv2 tbx mtab 21 5 a1 h n fun v11 h n =>
 cf 93 [a0, v11] h n fun v12 h n =>
 k v12 h n) (
 evBin2 tbx .eql 21 a1 (.i .i32 65533) fun v13 =>
 brB v13 (
 none) (
 cf 303 [a1] h n fun v14 h n =>
 evUn .not v14 fun v15 =>
 brB v15 (
 k (.i .i64 (-1)) h n) (
 jp (fun (s18 : VT [4]) (h : H) (n : Id) =>
 pc s18 fun v21 s22 =>
 kk2 (v21, ()) h n) fun kk16 =>
 jp (lpC [0, 1, 7, 8, 9] (fun lo20 s19 h n =>
 pc s19 fun v23 s24 =>
 pc s24 fun v25 s26 =>
 pc s26 fun v27 s28 =>
 pc s28 fun v29 s30 =>
 pc s30 fun v31 s32 =>
 jp (fun (s33 : VT []) (h : H) (n : Id) =>
 k (.i .i64 (-1)) h n) fun kk34 =>
 brB (.b true) (
 evBin2 tbx .sub 3 v31 v29 fun v35 =>
 evSlc tbx 9 v23 (some v35) none fun v36 =>
 evConv2 tbx mtab 21 9 v25 h n fun v37 h n =>
 cf 192 [v36, v37] h n fun v38 h n =>
 evBin2 tbx .geq 3 v38 (.i .i64 0) fun v39 =>
 brB v39 (
 evBin2 tbx .add 3 v31 v38 fun v40 =>
 evBin2 tbx .sub 3 v40 v29 fun v41 =>
 k v41 h n) (
 kk34 (()) h n)) (
 evIx tbx 9 v27 v29 fun v42 =>
 evBin2 tbx .sub 3 v29 (.i .i64 1) fun v43 =>
 evIx tbx 9 v27 v43 fun v44 =>
 jp (fun (s45 : VT []) (h : H) (n : Id) =>
 kk34 (()) h n) fun kk46 =>
 lpC [0, 7, 8, 9, 14, 15] (fun lo48 s47 h n =>
 pc s47 fun v49 s50 =>
 pc s50 fun v51 s52 =>
 pc s52 fun v53 s54 =>
 pc s54 fun v55 s56 =>
 pc s56 fun v57 s58 =>
 pc s58 fun v59 s60 =>
 evLen tbx 9 v49 fun v61 =>
 evBin2 tbx .lss 3 v55 v61 fun v62 =>
 brB v62 (
 jp (fun (s63 : VT [0, 7, 8, 9, 14, 15]) (h : H) (n : Id) =>
 pc s63 fun v65 s66 =>
 pc s66 fun v67 s68 =>
 pc s68 fun v69 s70 =>
 pc s70 fun v71 s72 =>
 pc s72 fun v73 s74 =>
 pc s74 fun v75 s76 =>
 evBin2 tbx .add 3 v71 (.i .i64 1) fun v77 =>
 lo48 (v65, v67, v69, v77, v73, v75, ()) h n) fun kk64 =>
 evIx tbx 9 v49 v55 fun v78 =>
 evBin2 tbx .eql 5 v78 v57 fun v79 =>
 jp (fun (v80 : V) (h : H) (n : Id) =>
 jp (fun (v82 : V) (h : H) (n : Id) =>
 jp (fun (v84 : V) (h : H) (n : Id) =>
 jp (fun (v86 : V) (h : H) (n : Id) =>
 jp (fun (v88 : V) (h : H) (n : Id) =>
 jp (fun (v90 : V) (h : H) (n : Id) =>
 evPick v79 v90 (.b false) fun v92 =>
 brB v92 (
 jp (fun (s93 : VT [8, 9]) (h : H) (n : Id) =>
 pc s93 fun v95 s96 =>
 pc s96 fun v97 s98 =>
 evBin2 tbx .sub 3 v97 v95 fun v99 =>
 k v99 h n) fun kk94 =>
 lpC [0, 7, 8, 9, 14, 15, 16] (fun lo101 s100 h n =>
 pc s100 fun v102 s103 =>
 pc s103 fun v104 s105 =>
 pc s105 fun v106 s107 =>
 pc s107 fun v108 s109 =>
 pc s109 fun v110 s111 =>
 pc s111 fun v112 s113 =>
 pc s113 fun v114 s115 =>
 evLen tbx 9 v104 fun v116 =>
 evBin2 tbx .lss 3 v114 v116 fun v117 =>
 brB v117 (
 jp (fun (s118 : VT [0, 7, 8, 9, 14, 15, 16]) (h : H) (n : Id) =>
 pc s118 fun v120 s121 =>
 pc s121 fun v122 s123 =>
 pc s123 fun v124 s125 =>
 pc s125 fun v126 s127 =>
 pc s127 fun v128 s129 =>
 pc s129 fun v130 s131 =>
 pc s131 fun v132 s133 =>
 evBin2 tbx .add 3 v132 (.i .i64 1) fun v134 =>
 lo101 (v120, v122, v124, v126, v128, v130, v134, ()) h n) fun kk119 =>
 evBin2 tbx .sub 3 v108 v114 fun v135 =>
 evIx tbx 9 v102 v135 fun v136 =>
 evBin2 tbx .sub 3 v106 v114 fun v137 =>
 evIx tbx 9 v104 v137 fun v138 =>
 evBin2 tbx .neq 5 v136 v138 fun v139 =>
 brB v139 (
 kk64 (v102, v104, v106, v108, v110, v112, ()) h n) (
 kk119 (v102, v104, v106, v108, v110, v112, v114, ()) h n)) (
 kk94 (v106, v108, ()) h n)) fu (v49, v51, v53, v55, v57, v59, (.i .i64 2), ()) h n) (
 kk64 (v49, v51, v53, v55, v57, v59, ()) h n)) fun kk91 =>
 gdB v79 true ((evBin2 tbx .eql 5 v86 v88 fun v => kk91 v h n)) (kk91 (.tp []) h n)) fun kk89 =>
 gdB v79 true (kk89 v59 h n) (kk89 (.tp []) h n)) fun kk87 =>
 gdB v79 true ((evIx tbx 9 v80 v84 fun v => kk87 v h n)) (kk87 (.tp []) h n)) fun kk85 =>
 gdB v79 true ((evBin2 tbx .sub 3 v82 (.i .i64 1) fun v => kk85 v h n)) (kk85 (.tp []) h n)) fun kk83 =>
 gdB v79 true (kk83 v55 h n) (kk83 (.tp []) h n)) fun kk81 =>
 gdB v79 true (kk81 v49 h n) (kk81 (.tp []) h n)) (
 kk46 (()) h n)) fu (v23, v27, v29, v31, v42, v44, ()) h n)) fu) fun lo17 =>
 evConv2 tbx mtab 21 9 a1 h n fun v140 h n =>
 evLen tbx 9 v140 fun v141 =>
 evBin2 tbx .sub 3 v141 (.i .i64 1) fun v142 =>
 jp (fun (s143 : VT []) (h : H) (n : Id) =>
 k (.i .i64 (-1)) h n) fun kk144 =>
 lpC [0, 1, 7, 8, 9, 10] (fun lo146 s145 h n =>
 pc s145 fun v147 s148 =>
 pc s148 fun v149 s150 =>
 pc s150 fun v151 s152 =>
 pc s152 fun v153 s154 =>
 pc s154 fun v155 s156 =>
 pc s156 fun v157 s158 =>
 evLen tbx 9 v147 fun v159 =>
 evBin2 tbx .lss 3 v155 v159 fun v160 =>
 brB v160 (
 jp (fun (s161 : VT [0, 1, 7, 8, 9, 10]) (h : H) (n : Id) =>
 pc s161 fun v163 s164 =>
 pc s164 fun v165 s166 =>
 pc s166 fun v167 s168 =>
 pc s168 fun v169 s170 =>
 pc s170 fun v171 s172 =>
 pc s172 fun v173 s174 =>
 lo146 (v163, v165, v167, v169, v171, v173, ()) h n) fun kk162 =>
 jp (fun (s177 : VT [0, 1, 7, 8, 9, 10]) (h : H) (n : Id) =>
 pc s177 fun v180 s181 =>
 pc s181 fun v182 s183 =>
 pc s183 fun v184 s185 =>
 pc s185 fun v186 s187 =>
 pc s187 fun v188 s189 =>
 pc s189 fun v190 s191 =>
 kk162 (v180, v182, v184, v186, v188, v190, ()) h n) fun kk175 =>
 jp (lpC [0, 1, 7, 8, 9, 10] (fun lo179 s178 h n =>
 pc s178 fun v192 s193 =>
 pc s193 fun v194 s195 =>
 pc s195 fun v196 s197 =>
 pc s197 fun v198 s199 =>
 pc s199 fun v200 s201 =>
 pc s201 fun v202 s203 =>
 evBin2 tbx .add 3 v202 (.i .i64 1) fun v204 =>
 evBin2 tbx .add 3 v200 (.i .i64 1) fun v205 =>
 jp (fun (v206 : V) (h : H) (n : Id) =>
 jp (fun (v208 : V) (h : H) (n : Id) =>
 jp (fun (v210 : V) (h : H) (n : Id) =>
 jp (fun (v212 : V) (h : H) (n : Id) =>
 evPick (.b true) v212 (.b false) fun v214 =>
 jp (fun (v215 : V) (h : H) (n : Id) =>
 jp (fun (v217 : V) (h : H) (n : Id) =>
 jp (fun (v219 : V) (h : H) (n : Id) =>
 jp (fun (v221 : V) (h : H) (n : Id) =>
 evPick v214 v221 (.b false) fun v223 =>
 jp (fun (v224 : V) (h : H) (n : Id) =>
 jp (fun (v226 : V) (h : H) (n : Id) =>
 jp (fun (v228 : V) (h : H) (n : Id) =>
 jp (fun (v230 : V) (h : H) (n : Id) =>
 jp (fun (v232 : V) (h : H) (n : Id) =>
 jp (fun (v234 : V) (h : H) (n : Id) =>
 jp (fun (v236 : V) (h : H) (n : Id) =>
 jp (fun (v238 : V) (h : H) (n : Id) =>
 jp (fun (v240 : V) (h : H) (n : Id) =>
 jp (fun (v242 : V) (h : H) (n : Id) =>
 jp (fun (v244 : V) (h : H) (n : Id) =>
 jp (fun (v246 : V) (h : H) (n : Id) =>
 jp (fun (v248 : V) (h : H) (n : Id) =>
 evPick v223 (.b true) v248 fun v250 =>
 brB v250 (
 none) (
 kk175 (v192, v194, v196, v198, v205, v204, ()) h n)) fun kk249 =>
 gdB v223 false ((evPick v238 v246 (.b false) fun v => kk249 v h n)) (kk249 (.tp []) h n)) fun kk247 =>
 gdB v238 true ((evBin2 tbx .lss 3 v240 v244 fun v => kk247 v h n)) (kk247 (.tp []) h n)) fun kk245 =>
 gdB v238 true ((evLen tbx 9 v242 fun v => kk245 v h n)) (kk245 (.tp []) h n)) fun kk243 =>
 gdB v238 true (kk243 v192 h n) (kk243 (.tp []) h n)) fun kk241 =>
 gdB v238 true (kk241 v205 h n) (kk241 (.tp []) h n)) fun kk239 =>
 gdB v223 false (kk239 v236 h n) (kk239 (.tp []) h n)) fun kk237 =>
 gdB v223 false ((evPick v224 v234 (.b false) fun v => kk237 v h n)) (kk237 (.tp []) h n)) fun kk235 =>
 gdB v224 true ((evBin2 tbx .geq 3 v226 v232 fun v => kk235 v h n)) (kk235 (.tp []) h n)) fun kk233 =>
 gdB v224 true ((evBin2 tbx .add 3 (.i .i64 4) v230 fun v => kk233 v h n)) (kk233 (.tp []) h n)) fun kk231 =>
 gdB v224 true ((evBin2 tbx .shr 3 v228 (.i .u64 4) fun v => kk231 v h n)) (kk231 (.tp []) h n)) fun kk229 =>
 gdB v224 true (kk229 v205 h n) (kk229 (.tp []) h n)) fun kk227 =>
 gdB v224 true (kk227 v204 h n) (kk227 (.tp []) h n)) fun kk225 =>
 gdB v223 false (kk225 (.b false) h n) (kk225 (.tp []) h n)) fun kk222 =>
 gdB v214 true ((evBin2 tbx .lss 3 v215 v219 fun v => kk222 v h n)) (kk222 (.tp []) h n)) fun kk220 =>
 gdB v214 true ((evLen tbx 9 v217 fun v => kk220 v h n)) (kk220 (.tp []) h n)) fun kk218 =>
 gdB v214 true (kk218 v192 h n) (kk218 (.tp []) h n)) fun kk216 =>
 gdB v214 true (kk216 v205 h n) (kk216 (.tp []) h n)) fun kk213 =>
 gdB (.b true) true ((evBin2 tbx .gtr 3 v206 v210 fun v => kk213 v h n)) (kk213 (.tp []) h n)) fun kk211 =>
 gdB (.b true) true ((cf 193 [v208] h n kk211)) (kk211 (.tp []) h n)) fun kk209 =>
 gdB (.b true) true (kk209 v205 h n) (kk209 (.tp []) h n)) fun kk207 =>
 gdB (.b true) true (kk207 v204 h n) (kk207 (.tp []) h n)) fu) fun lo176 =>
 jp (fun (s251 : VT [0, 1, 7, 8, 9, 10]) (h : H) (n : Id) =>
 pc s251 fun v253 s254 =>
 pc s254 fun v255 s256 =>
 pc s256 fun v257 s258 =>
 pc s258 fun v259 s260 =>
 pc s260 fun v261 s262 =>
 pc s262 fun v263 s264 =>
 jp (fun (s265 : VT [8, 9]) (h : H) (n : Id) =>
 pc s265 fun v267 s268 =>
 pc s268 fun v269 s270 =>
 evBin2 tbx .sub 3 v269 v267 fun v271 =>
 k v271 h n) fun kk266 =>
 lpC [0, 1, 7, 8, 9, 10, 12] (fun lo273 s272 h n =>
 pc s272 fun v274 s275 =>
 pc s275 fun v276 s277 =>
 pc s277 fun v278 s279 =>
 pc s279 fun v280 s281 =>
 pc s281 fun v282 s283 =>
 pc s283 fun v284 s285 =>
 pc s285 fun v286 s287 =>
 evLen tbx 9 v278 fun v288 =>
 evBin2 tbx .lss 3 v286 v288 fun v289 =>
 brB v289 (
 jp (fun (s290 : VT [0, 1, 7, 8, 9, 10, 12]) (h : H) (n : Id) =>
 pc s290 fun v292 s293 =>
 pc s293 fun v294 s295 =>
 pc s295 fun v296 s297 =>
 pc s297 fun v298 s299 =>
 pc s299 fun v300 s301 =>
 pc s301 fun v302 s303 =>
 pc s303 fun v304 s305 =>
 evBin2 tbx .add 3 v304 (.i .i64 1) fun v306 =>
 lo273 (v292, v294, v296, v298, v300, v302, v306, ()) h n) fun kk291 =>
 evBin2 tbx .sub 3 v282 v286 fun v307 =>
 evIx tbx 9 v274 v307 fun v308 =>
 evBin2 tbx .sub 3 v280 v286 fun v309 =>
 evIx tbx 9 v278 v309 fun v310 =>
 evBin2 tbx .neq 5 v308 v310 fun v311 =>
 brB v311 (
 lo176 (v274, v276, v278, v280, v282, v284, ()) h n) (
 kk291 (v274, v276, v278, v280, v282, v284, v286, ()) h n)) (
 kk266 (v280, v282, ()) h n)) fu (v253, v255, v257, v259, v261, v263, (.i .i64 1), ()) h n) fun kk252 =>
 evIx tbx 9 v147 v155 fun v312 =>
 evIx tbx 9 v151 v153 fun v313 =>
 evBin2 tbx .neq 5 v312 v313 fun v314 =>
 brB v314 (
 evBin2 tbx .add 3 v155 (.i .i64 1) fun v315 =>
 evSlc tbx 9 v147 (some v315) none fun v316 =>
 evIx tbx 9 v151 v153 fun v317 =>
 cf 93 [v316, v317] h n fun v318 h n =>
 evBin2 tbx .lss 3 v318 (.i .i64 0) fun v319 =>
 brB v319 (
 k (.i .i64 (-1)) h n) (
 evBin2 tbx .add 3 v318 (.i .i64 1) fun v320 =>
 evBin2 tbx .add 3 v155 v320 fun v321 =>
 kk252 (v147, v149, v151, v153, v321, v157, ()) h n)) (
 kk252 (v147, v149, v151, v153, v155, v157, ()) h n)) (
 kk144 (()) h n)) fu (a0, a1, v140, v142, v142, (.i .i64 0), ()) h n)))) fun kk9 =>
 gdB v5 true ((evBin2 tbx .lss 21 v6 (.i .i32 128) fun v => kk9 v h n)) (kk9 (.tp []) h n)) fun kk7 =>
 gdB v5 true (kk7 a1 h n) (kk7 (.tp []) h n)
theorem q268 (fu : Nat) (cf : CF) (a0 a1 : V) (h : H) (n : Id) (k : KV) : evFn tbx mtab (fun cf _ => drF tbx mtab cf) fu cf ⟨Tryz.f268, bd Tryz.f268, [0, 1], [4], (.q .z (.b [4] (.q .z (.c (.q .z .z) (.q .z (.c (.q (.q .z (.b [] (.l [175] (.q .z (.q (.c .z .z) (.b [175] (.q .z (.q .z (.c (.q .z .z) .z))))))))) (.q .z .z)) (.q .z (.c (.q .z .z) (.g 1 [0, 1, 7, 8, 9] [4] (.q .z (.q .z (.q .z (.q .z (.q (.b [] (.l [0, 1, 7, 8, 9, 10] (.q (.q .z (.c .z .z)) (.b [0, 1, 7, 8, 9, 10] (.g 0 [0, 1, 7, 8, 9, 10] [0, 1, 7, 8, 9, 10] (.s [0, 1, 7, 8, 9, 10] (.q .z (.c (.q .z (.q (.q .z (.c (.q .z .z) .z)) .z)) .z)) (.q (.q .z (.b [8, 9] (.l [0, 1, 7, 8, 9, 10, 12] (.q (.q .z (.c .z .z)) (.q (.b [0, 1, 7, 8, 9, 10, 12] (.q .z (.c .z .z))) .z))))) (.q (.q .z .z) (.q .z (.q .z (.q .z (.q .z (.c .z .z)))))))) (.q .z (.q .z (.q .z (.q .z (.c .z .z)))))))))) (.q (.q .z .z) (.q .z (.s [] (.c (.q .z (.q .z (.c (.q .z .z) .z))) (.o (.q .z (.q .z (.q .z (.b [] (.l [0, 7, 8, 9, 14, 15] (.q (.q .z (.c .z .z)) (.q (.b [0, 7, 8, 9, 14, 15] (.q .z (.c (.q (.q .z (.b [8, 9] (.l [0, 7, 8, 9, 14, 15, 16] (.q (.q .z (.c .z .z)) (.q (.b [0, 7, 8, 9, 14, 15, 16] (.q .z (.c .z .z))) .z))))) (.q .z .z)) .z))) .z))))))))) (.q .z .z))))))))) (.q .z (.s [] (.c (.q .z (.q .z (.c (.q .z .z) .z))) (.o (.q .z (.q .z (.q .z (.b [] (.l [0, 7, 8, 9, 14, 15] (.q (.q .z (.c .z .z)) (.q (.b [0, 7, 8, 9, 14, 15] (.q .z (.c (.q (.q .z (.b [8, 9] (.l [0, 7, 8, 9, 14, 15, 16] (.q (.q .z (.c .z .z)) (.q (.b [0, 7, 8, 9, 14, 15, 16] (.q .z (.c .z .z))) .z))))) (.q .z .z)) .z))) .z))))))))) (.q .z .z))))))))))))⟩ [a0, a1] h n k = s268 fu cf a0 a1 h n k := by kernel_rfl
theorem p268 : PfOk Tryz.prog tbx mtab 268 (w2 (s268 fuX)) := pfo ⟨Tryz.f268, bd Tryz.f268, [0, 1], [4], (.q .z (.b [4] (.q .z (.c (.q .z .z) (.q .z (.c (.q (.q .z (.b [] (.l [175] (.q .z (.q (.c .z .z) (.b [175] (.q .z (.q .z (.c (.q .z .z) .z))))))))) (.q .z .z)) (.q .z (.c (.q .z .z) (.g 1 [0, 1, 7, 8, 9] [4] (.q .z (.q .z (.q .z (.q .z (.q (.b [] (.l [0, 1, 7, 8, 9, 10] (.q (.q .z (.c .z .z)) (.b [0, 1, 7, 8, 9, 10] (.g 0 [0, 1, 7, 8, 9, 10] [0, 1, 7, 8, 9, 10] (.s [0, 1, 7, 8, 9, 10] (.q .z (.c (.q .z (.q (.q .z (.c (.q .z .z) .z)) .z)) .z)) (.q (.q .z (.b [8, 9] (.l [0, 1, 7, 8, 9, 10, 12] (.q (.q .z (.c .z .z)) (.q (.b [0, 1, 7, 8, 9, 10, 12] (.q .z (.c .z .z))) .z))))) (.q (.q .z .z) (.q .z (.q .z (.q .z (.q .z (.c .z .z)))))))) (.q .z (.q .z (.q .z (.q .z (.c .z .z)))))))))) (.q (.q .z .z) (.q .z (.s [] (.c (.q .z (.q .z (.c (.q .z .z) .z))) (.o (.q .z (.q .z (.q .z (.b [] (.l [0, 7, 8, 9, 14, 15] (.q (.q .z (.c .z .z)) (.q (.b [0, 7, 8, 9, 14, 15] (.q .z (.c (.q (.q .z (.b [8, 9] (.l [0, 7, 8, 9, 14, 15, 16] (.q (.q .z (.c .z .z)) (.q (.b [0, 7, 8, 9, 14, 15, 16] (.q .z (.c .z .z))) .z))))) (.q .z .z)) .z))) .z))))))))) (.q .z .z))))))))) (.q .z (.s [] (.c (.q .z (.q .z (.c (.q .z .z) .z))) (.o (.q .z (.q .z (.q .z (.b [] (.l [0, 7, 8, 9, 14, 15] (.q (.q .z (.c .z .z)) (.q (.b [0, 7, 8, 9, 14, 15] (.q .z (.c (.q (.q .z (.b [8, 9] (.l [0, 7, 8, 9, 14, 15, 16] (.q (.q .z (.c .z .z)) (.q (.b [0, 7, 8, 9, 14, 15, 16] (.q .z (.c .z .z))) .z))))) (.q .z .z)) .z))) .z))))))))) (.q .z .z))))))))))))⟩ Tryz.func268 (by kernel_rfl) (by kernel_rfl) (by kernel_rfl) (by kernel_rfl) (w2_ok fun cf a0 a1 h n k => q268 fuX cf a0 a1 h n k)
-- (*strings.asciiSet).contains
noncomputable def s270 (fu : Nat) (cf : CF) (a0 a1 : V) (h : H) (n : Id) (k : KV) : R :=
 evNc' a0 fun v1 =>
 evIa tbx 293 v1 a1 fun v2 =>
 evLoad tbx 4 v2 h fun v3 =>
 k v3 h n
theorem q270 (fu : Nat) (cf : CF) (a0 a1 : V) (h : H) (n : Id) (k : KV) : evFn tbx mtab (fun cf _ => drF tbx mtab cf) fu cf ⟨Tryz.f270, bd Tryz.f270, [0, 1], [4], (.q .z (.q .z .z))⟩ [a0, a1] h n k = s270 fu cf a0 a1 h n k := by kernel_rfl
theorem p270 : PfOk Tryz.prog tbx mtab 270 (w2 (s270 fuX)) := pfo ⟨Tryz.f270, bd Tryz.f270, [0, 1], [4], (.q .z (.q .z .z))⟩ Tryz.func270 (by kernel_rfl) (by kernel_rfl) (by kernel_rfl) (by kernel_rfl) (w2_ok fun cf a0 a1 h n k => q270 fuX cf a0 a1 h n k)
-- internal/stringslite.Cut
noncomputable def s271 (fu : Nat) (cf : CF) (a0 a1 : V) (h : H) (n : Id) (k : KV) : R :=
 cf 138 [a0, a1] h n fun v1 h n =>
 evBin2 tbx .geq 3 v1 (.i .i64 0) fun v2 =>
 brB v2 (
 evSlc tbx 9 a0 none (some v1) fun v3 =>
 evLen tbx 9 a1 fun v4 =>
 evBin2 tbx .add 3 v1 v4 fun v5 =>
 evSlc tbx 9 a0 (some v5) none fun v6 =>
 k (.tp [v3, v6, (.b true)]) h n) (
 k (.tp [a0, (.s 0 0), (.b false)]) h n)
theorem q271 (fu : Nat) (cf : CF) (a0 a1 : V) (h : H) (n : Id) (k : KV) : evFn tbx mtab (fun cf _ => drF tbx mtab cf) fu cf ⟨Tryz.f271, bd Tryz.f271, [0, 1], [4, 5, 6], (.q .z (.q (.q .z (.q .z (.c (.q .z .z) .z))) (.q .z .z)))⟩ [a0, a1] h n k = s271 fu cf a0 a1 h n k := by kernel_rfl
theorem p271 : PfOk Tryz.prog tbx mtab 271 (w2 (s271 fuX)) := pfo ⟨Tryz.f271, bd Tryz.f271, [0, 1], [4, 5, 6], (.q .z (.q (.q .z (.q .z (.c (.q .z .z) .z))) (.q .z .z)))⟩ Tryz.func271 (by kernel_rfl) (by kernel_rfl) (by kernel_rfl) (by kernel_rfl) (w2_ok fun cf a0 a1 h n k => q271 fuX cf a0 a1 h n k)
-- unicode/utf8.DecodeRuneInString
noncomputable def s285 (fu : Nat) (cf : CF) (a0 : V) (h : H) (n : Id) (k : KV) : R :=
 evBin2 tbx .neq 9 a0 (.s 0 0) fun v1 =>
 jp (fun (v2 : V) (h : H) (n : Id) =>
 jp (fun (v4 : V) (h : H) (n : Id) =>
 jp (fun (v6 : V) (h : H) (n : Id) =>
 evPick v1 v6 (.b false) fun v8 =>
 brB v8 (
 evIx tbx 9 a0 (.i .i64 0) fun v9 =>
 evConv2 tbx mtab 5 21 v9 h n fun v10 h n =>
 k (.tp [v10, (.i .i64 1)]) h n) (
 cf 308 [a0] h n fun v11 h n =>
 evExt 0 v11 fun v12 =>
 evExt 1 v11 fun v13 =>
 k (.tp [v12, v13]) h n)) fun kk7 =>
 gdB v1 true ((evBin2 tbx .lss 5 v4 (.i .u8 128) fun v => kk7 v h n)) (kk7 (.tp []) h n)) fun kk5 =>
 gdB v1 true ((evIx tbx 9 v2 (.i .i64 0) fun v => kk5 v h n)) (kk5 (.tp []) h n)) fun kk3 =>
 gdB v1 true (kk3 a0 h n) (kk3 (.tp []) h n)
theorem q285 (fu : Nat) (cf : CF) (a0 : V) (h : H) (n : Id) (k : KV) : evFn tbx mtab (fun cf _ => drF tbx mtab cf) fu cf ⟨Tryz.f285, bd Tryz.f285, [0], [2, 3], (.q .z (.q (.q .z (.c (.q .z .z) .z)) .z))⟩ [a0] h n k = s285 fu cf a0 h n k := by kernel_rfl
theorem p285 : PfOk Tryz.prog tbx mtab 285 (w1 (s285 fuX)) := pfo ⟨Tryz.f285, bd Tryz.f285, [0], [2, 3], (.q .z (.q (.q .z (.c (.q .z .z) .z)) .z))⟩ Tryz.func285 (by kernel_rfl) (by kernel_rfl) (by kernel_rfl) (by kernel_rfl) (w1_ok fun cf a0 h n k => q285 fuX cf a0 h n k)
-- internal/stringslite.HasSuffix
noncomputable def s287 (fu : Nat) (cf : CF) (a0 a1 : V) (h : H) (n : Id) (k : KV) : R :=
 evLen tbx 9 a0 fun v1 =>
 evLen tbx 9 a1 fun v2 =>
 evBin2 tbx .geq 3 v1 v2 fun v3 =>
 jp (fun (v4 : V) (h : H) (n : Id) =>
 jp (fun (v6 : V) (h : H) (n : Id) =>
 jp (fun (v8 : V) (h : H) (n : Id) =>
 jp (fun (v10 : V) (h : H) (n : Id) =>
 jp (fun (v12 : V) (h : H) (n : Id) =>
 jp (fun (v14 : V) (h : H) (n : Id) =>
 jp (fun (v16 : V) (h : H) (n : Id) =>
 jp (fun (v18 : V) (h : H) (n : Id) =>
 jp (fun (v20 : V) (h : H) (n : Id) =>
 evPick v3 v20 (.b false) fun v22 =>
 k v22 h n) fun kk21 =>
 gdB v3 true ((evBin2 tbx .eql 9 v16 v18 fun v => kk21 v h n)) (kk21 (.tp []) h n)) fun kk19 =>
 gdB v3 true (kk19 a1 h n) (kk19 (.tp []) h n)) fun kk17 =>
 gdB v3 true ((evSlc tbx 9 v4 (some v14) none fun v => kk17 v h n)) (kk17 (.tp []) h n)) fun kk15 =>
 gdB v3 true ((evBin2 tbx .sub 3 v8 v12 fun v => kk15 v h n)) (kk15 (.tp []) h n)) fun kk13 =>
 gdB v3 true ((evLen tbx 9 v10 fun v => kk13 v h n)) (kk13 (.tp []) h n)) fun kk11 =>
 gdB v3 true (kk11 a1 h n) (kk11 (.tp []) h n)) fun kk9 =>
 gdB v3 true ((evLen tbx 9 v6 fun v => kk9 v h n)) (kk9 (.tp []) h n)) fun kk7 =>
 gdB v3 true (kk7 a0 h n) (kk7 (.tp []) h n)) fun kk5 =>
 gdB v3 true (kk5 a0 h n) (kk5 (.tp []) h n)
theorem q287 (fu : Nat) (cf : CF) (a0 a1 : V) (h : H) (n : Id) (k : KV) : evFn tbx mtab (fun cf _ => drF tbx mtab cf) fu cf ⟨Tryz.f287, bd Tryz.f287, [0, 1], [4], (.q .z (.q .z .z))⟩ [a0, a1] h n k = s287 fu cf a0 a1 h n k := by kernel_rfl
theorem p287 : PfOk Tryz.prog tbx mtab 287 (w2 (s287 fuX)) := pfo ⟨Tryz.f287, bd Tryz.f287, [0, 1], [4], (.q .z (.q .z .z))⟩ Tryz.func287 (by kernel_rfl) (by kernel_rfl) (by kernel_rfl) (by kernel_rfl) (w2_ok fun cf a0 a1 h n k => q287 fuX cf a0 a1 h n k)
-- slices.IndexFunc[[]newel/api.Attr,newel/api.Attr]
noncomputable def s289 (fu : Nat) (cf : CF) (a0 a1 : V) (h : H) (n : Id) (k : KV) : R :=
 evLen tbx 160 a0 fun v1 =>
 jp (fun (s2 : VT []) (h : H) (n : Id) =>
 k (.i .i64 (-1)) h n) fun kk3 =>
 lpC [0, 1, 7, 8] (fun lo5 s4 h n =>
 pc s4 fun v6 s7 =>
 pc s7 fun v8 s9 =>
 pc s9 fun v10 s11 =>
 pc s11 fun v12 s13 =>
 evBin2 tbx .lss 3 v12 v10 fun v14 =>
 brB v14 (
 jp (fun (s15 : VT [0, 1, 7, 8]) (h : H) (n : Id) =>
 pc s15 fun v17 s18 =>
 pc s18 fun v19 s20 =>
 pc s20 fun v21 s22 =>
 pc s22 fun v23 s24 =>
 evBin2 tbx .add 3 v23 (.i .i64 1) fun v25 =>
 lo5 (v17, v19, v21, v25, ()) h n) fun kk16 =>
 evIa tbx 160 v6 v12 fun v26 =>
 evLoad tbx 303 v26 h fun v27 =>
 evCall cf v8 [v27] h n fun v28 h n =>
 brB v28 (
 k v12 h n) (
 kk16 (v6, v8, v10, v12, ()) h n)) (
 kk3 (()) h n)) fu (a0, a1, v1, (.i .i64 0), ()) h n
theorem q289 (fu : Nat) (cf : CF) (a0 a1 : V) (h : H) (n : Id) (k : KV) : evFn tbx mtab (fun cf _ => drF tbx mtab cf) fu cf ⟨Tryz.f289, bd Tryz.f289, [0, 1], [4], (.q .z (.q (.q .z (.b [] (.l [0, 1, 7, 8] (.q .z (.q (.c .z .z) (.q (.b [0, 1, 7, 8] (.q .z (.q .z (.c (.q .z .z) .z)))) .z)))))) (.q .z .z)))⟩ [a0, a1] h n k = s289 fu cf a0 a1 h n k := by kernel_rfl
theorem p289 : PfOk Tryz.prog tbx mtab 289 (w2 (s289 fuX)) := pfo ⟨Tryz.f289, bd Tryz.f289, [0, 1], [4], (.q .z (.q (.q .z (.b [] (.l [0, 1, 7, 8] (.q .z (.q (.c .z .z) (.q (.b [0, 1, 7, 8] (.q .z (.q .z (.c (.q .z .z) .z)))) .z)))))) (.q .z .z)))⟩ Tryz.func289 (by kernel_rfl) (by kernel_rfl) (by kernel_rfl) (by kernel_rfl) (w2_ok fun cf a0 a1 h n k => q289 fuX cf a0 a1 h n k)
-- newel/chars.first
noncomputable def s291 (fu : Nat) (cf : CF) (a0 : V) (h : H) (n : Id) (k : KV) : R :=
 evBin2 tbx .geq 5 a0 (.i .u8 65) fun v1 =>
 jp (fun (v2 : V) (h : H) (n : Id) =>
 jp (fun (v4 : V) (h : H) (n : Id) =>
 evPick v1 v4 (.b false) fun v6 =>
 jp (fun (v7 : V) (h : H) (n : Id) =>
 jp (fun (v9 : V) (h : H) (n : Id) =>
 jp (fun (v11 : V) (h : H) (n : Id) =>
 jp (fun (v13 : V) (h : H) (n : Id) =>
 jp (fun (v15 : V) (h : H) (n : Id) =>
 jp (fun (v17 : V) (h : H) (n : Id) =>
 evPick v6 (.b true) v17 fun v19 =>
 jp (fun (v20 : V) (h : H) (n : Id) =>
 jp (fun (v22 : V) (h : H) (n : Id) =>
 evPick v19 (.b true) v22 fun v24 =>
 k v24 h n) fun kk23 =>
 gdB v19 false ((evBin2 tbx .eql 5 v20 (.i .u8 95) fun v => kk23 v h n)) (kk23 (.tp []) h n)) fun kk21 =>
 gdB v19 false (kk21 a0 h n) (kk21 (.tp []) h n)) fun kk18 =>
 gdB v6 false ((evPick v11 v15 (.b false) fun v => kk18 v h n)) (kk18 (.tp []) h n)) fun kk16 =>
 gdB v11 true ((evBin2 tbx .leq 5 v13 (.i .u8 122) fun v => kk16 v h n)) (kk16 (.tp []) h n)) fun kk14 =>
 gdB v11 true (kk14 a0 h n) (kk14 (.tp []) h n)) fun kk12 =>
 gdB v6 false (kk12 v9 h n) (kk12 (.tp []) h n)) fun kk10 =>
 gdB v6 false ((evBin2 tbx .geq 5 v7 (.i .u8 97) fun v => kk10 v h n)) (kk10 (.tp []) h n)) fun kk8 =>
 gdB v6 false (kk8 a0 h n) (kk8 (.tp []) h n)) fun kk5 =>
 gdB v1 true ((evBin2 tbx .leq 5 v2 (.i .u8 90) fun v => kk5 v h n)) (kk5 (.tp []) h n)) fun kk3 =>
 gdB v1 true (kk3 a0 h n) (kk3 (.tp []) h n)
theorem q291 (fu : Nat) (cf : CF) (a0 : V) (h : H) (n : Id) (k : KV) : evFn tbx mtab (fun cf _ => drF tbx mtab cf) fu cf ⟨Tryz.f291, bd Tryz.f291, [0], [2], (.q .z (.q .z .z))⟩ [a0] h n k = s291 fu cf a0 h n k := by kernel_rfl
theorem p291 : PfOk Tryz.prog tbx mtab 291 (w1 (s291 fuX)) := pfo ⟨Tryz.f291, bd Tryz.f291, [0], [2], (.q .z (.q .z .z))⟩ Tryz.func291 (by kernel_rfl) (by kernel_rfl) (by kernel_rfl) (by kernel_rfl) (w1_ok fun cf a0 h n k => q291 fuX cf a0 h n k)
-- newel/chars.Within
noncomputable def s292 (fu : Nat) (cf : CF) (a0 : V) (h : H) (n : Id) (k : KV) : R :=
 cf 291 [a0] h n fun v1 h n =>
 jp (fun (v2 : V) (h : H) (n : Id) =>
 jp (fun (v4 : V) (h : H) (n : Id) =>
 evPick v1 (.b true) v4 fun v6 =>
 jp (fun (v7 : V) (h : H) (n : Id) =>
 jp (fun (v9 : V) (h : H) (n : Id) =>
 evPick v6 (.b true) v9 fun v11 =>
 jp (fun (v12 : V) (h : H) (n : Id) =>
 jp (fun (v14 : V) (h : H) (n : Id) =>
 evPick v11 (.b true) v14 fun v16 =>
 jp (fun (v17 : V) (h : H) (n : Id) =>
 jp (fun (v19 : V) (h : H) (n : Id) =>
 evPick v16 (.b true) v19 fun v21 =>
 k v21 h n) fun kk20 =>
 gdB v16 false ((evBin2 tbx .eql 5 v17 (.i .u8 58) fun v => kk20 v h n)) (kk20 (.tp []) h n)) fun kk18 =>
 gdB v16 false (kk18 a0 h n) (kk18 (.tp []) h n)) fun kk15 =>
 gdB v11 false ((evBin2 tbx .eql 5 v12 (.i .u8 46) fun v => kk15 v h n)) (kk15 (.tp []) h n)) fun kk13 =>
 gdB v11 false (kk13 a0 h n) (kk13 (.tp []) h n)) fun kk10 =>
 gdB v6 false ((evBin2 tbx .eql 5 v7 (.i .u8 45) fun v => kk10 v h n)) (kk10 (.tp []) h n)) fun kk8 =>
 gdB v6 false (kk8 a0 h n) (kk8 (.tp []) h n)) fun kk5 =>
 gdB v1 false ((cf 188 [v2] h n kk5)) (kk5 (.tp []) h n)) fun kk3 =>
 gdB v1 false (kk3 a0 h n) (kk3 (.tp []) h n)
theorem q292 (fu : Nat) (cf : CF) (a0 : V) (h : H) (n : Id) (k : KV) : evFn tbx mtab (fun cf _ => drF tbx mtab cf) fu cf ⟨Tryz.f292, bd Tryz.f292, [0], [2], (.q .z (.q .z .z))⟩ [a0] h n k = s292 fu cf a0 h n k := by kernel_rfl
theorem p292 : PfOk Tryz.prog tbx mtab 292 (w1 (s292 fuX)) := pfo ⟨Tryz.f292, bd Tryz.f292, [0], [2], (.q .z (.q .z .z))⟩ Tryz.func292 (by kernel_rfl) (by kernel_rfl) (by kernel_rfl) (by kernel_rfl) (w1_ok fun cf a0 h n k => q292 fuX cf a0 h n k)
-- (*strings.Builder).copyCheck
noncomputable def s293 (fu : Nat) (cf : CF) (a0 : V) (h : H) (n : Id) (k : KV) : R :=
 evNc' a0 fun v1 =>
 evFa tbx 314 0 v1 fun v2 =>
 evLoad tbx 312 v2 h fun v3 =>
 evBin2 tbx .eql 312 v3 .np fun v4 =>
 brB v4 (
 evConv2 tbx mtab 312 361 a0 h n fun v5 h n =>
 cf 311 [v5] h n fun v6 h n =>
 evConv2 tbx mtab 361 312 v6 h n fun v7 h n =>
 evNc' a0 fun v8 =>
 evFa tbx 314 0 v8 fun v9 =>
 evStore tbx 312 v9 v7 h n fun _ h n =>
 k (.tp []) h n) (
 evNc' a0 fun v10 =>
 evFa tbx 314 0 v10 fun v11 =>
 evLoad tbx 312 v11 h fun v12 =>
 evBin2 tbx .neq 312 v12 a0 fun v13 =>
 brB v13 (
 none) (
 k (.tp []) h n))
theorem q293 (fu : Nat) (cf : CF) (a0 : V) (h : H) (n : Id) (k : KV) : evFn tbx mtab (fun cf _ => drF tbx mtab cf) fu cf ⟨Tryz.f293, bd Tryz.f293, [0], [], (.q .z (.c .z (.q .z (.c .z .z))))⟩ [a0] h n k = s293 fu cf a0 h n k := by kernel_rfl
theorem p293 : PfOk Tryz.prog tbx mtab 293 (w1 (s293 fuX)) := pfo ⟨Tryz.f293, bd Tryz.f293, [0], [], (.q .z (.c .z (.q .z (.c .z .z))))⟩ Tryz.func293 (by kernel_rfl) (by kernel_rfl) (by kernel_rfl) (by kernel_rfl) (w1_ok fun cf a0 h n k => q293 fuX cf a0 h n k)
end Go.Proofs.Nw.X
end
section
/-
  DERIVED: THE SHELF's CONTRACTS AT THIS DUMP, IN PLAIN WORDS (tools/lay-plain.mjs out of 'TryzShelf.lean', which tools/lay-shelf.mjs wrote): THE SAME DECLARATIONS UNDER THE SAME NAMES: 'import', 'namespace', 'open', 'def', 'theorem' AND NOTHING ELSE: no command of the shelf's: FOR A HAND-IN. Each laying: the table of numbers ('.._ren') and one theorem, a field a fact of the dump's own or the kernel's comparison; each contract: ONE APPLICATION.
-/
namespace Go.Proofs
open Go.Shelf
def Tryz.lays219_ren : Go.Shelf.Ren := ⟨fun | 219 => 138 | 217 => 137 | 225 => 192 | 224 => 193 | 267 => 194 | 266 => 191 | 314 => 241 | n => n, fun | 9 => 9 | 3 => 3 | 4 => 4 | 5 => 5 | 46 => 22 | 146 => 298 | 51 => 146 | n => n, fun | 1 => 0 | n => n⟩
theorem Tryz.lays219 : Go.Proofs.Lays.n219 Tryz.prog Tryz.lays219_ren := {
  mixed := by kernel_rfl
  f217 := Tryz.func137.trans (congrArg some (by kernel_rfl))
  f219 := Tryz.func138.trans (congrArg some (by kernel_rfl))
  f224 := Tryz.func193.trans (congrArg some (by kernel_rfl))
  f225 := Tryz.func192.trans (congrArg some (by kernel_rfl))
  f266 := Tryz.func191.trans (congrArg some (by kernel_rfl))
  f267 := Tryz.func194.trans (congrArg some (by kernel_rfl))
  f314 := Tryz.func241.trans (congrArg some (by kernel_rfl))
  t3 := Tryz.underlying3
  a3 := Tryz.isAgg3
  z3 := Tryz.sizeOf3
  v3 := Tryz.zeroValue3
  t4 := Tryz.underlying4
  a4 := Tryz.isAgg4
  z4 := Tryz.sizeOf4
  v4 := Tryz.zeroValue4
  t5 := Tryz.underlying5
  a5 := Tryz.isAgg5
  z5 := Tryz.sizeOf5
  v5 := Tryz.zeroValue5
  t9 := Tryz.underlying9
  a9 := Tryz.isAgg9
  z9 := Tryz.sizeOf9
  v9 := Tryz.zeroValue9
  t46 := Tryz.underlying22
  a46 := Tryz.isAgg22
  z46 := Tryz.sizeOf22
  v46 := Tryz.zeroValue22
  t51 := Tryz.underlying146
  a51 := Tryz.isAgg146
  z51 := Tryz.sizeOf146
  v51 := Tryz.zeroValue146
  t146 := Tryz.underlying298
  a146 := Tryz.isAgg298
  z146 := Tryz.sizeOf298
  v146 := Tryz.zeroValue298
  g1 := by kernel_rfl }
open Go.RowKit Go.Lib in
/-- internal/stringslite.Index (what strings.Index calls) AT A substr OF WHATEVER LENGTH: IT RETURNS 'Lib.index s substr'; the world is as it was. 'm': what internal/bytealg.MaxLen holds: whatever. (LAID: no walk: one application.) -/
theorem Tryz.stringslite_Index (s sub : ByteArray) (m : Int) (w : World) (hs : s.size < 4294967281) (hm : w.cell? ⟨0, 0, none⟩ = some (.int .i64 m)) :
    Calls Tryz.prog 138 #[.string s, .string sub] w fun e w' => e = .returned (.int .i64 (Lib.index s.data.toList sub.data.toList)) ∧ w' = w := Any.stringslite_Index Tryz.lays219 s sub m w hs hm
end Go.Proofs
end
section
/- XHE: seat F's functions by contract. -/
open Go Go.RowKit Go.Proofs
set_option linter.unusedVariables false
set_option linter.unusedSimpArgs false
namespace Go.Proofs.Nw.X
open Go.Proofs.Nw.K
theorem sd191 : Sd Tryz.prog 191 gIx := sd_ix fun s c w => by
  rw [run_callFunc_extern Tryz.func191 (by kernel_rfl) (by kernel_rfl) (by kernel_rfl) (e := Extern.BytealgIndexByte.indexByte) (by kernel_rfl), Lib.run_indexByteString]; rfl
theorem sd311 : Sd Tryz.prog 311 gId := sd_id (tx_eiok (311, ()) (by show (311, ()) ∈ [(311, ())]; simp))
theorem sd138 : Sd Tryz.prog 138 gSi := sd_si (by kernel_rfl) fun s sub m w h1 h2 => Tryz.stringslite_Index s sub m w h1 h2
end Go.Proofs.Nw.X
end
section
/- printed by xg.py: seat F's evaluator. -/
open Go Go.RowKit Go.Proofs
set_option linter.unusedVariables false
set_option maxRecDepth 100000
namespace Go.Proofs.Nw.X
open Go.Proofs.Nw.K
noncomputable def fns : BT (CF → Fn1) := (.n 140 (w1 (s140 fuX)) (.n 77 (w4 (s77 fuX)) (.n 49 (w1 (s49 fuX)) (.n 34 (w1 (s34 fuX)) (.n 21 (w0 (s21 fuX)) (.n 19 (w1 (s19 fuX)) (.n 18 (w1 (s18 fuX)) (.n 4 (w1 (s4 fuX)) .e .e) .e) (.n 20 (w2 (s20 fuX)) .e .e)) (.n 32 (w2 (s32 fuX)) (.n 31 (w1 (s31 fuX)) (.n 22 (w2 (s22 fuX)) .e .e) .e) (.n 33 (w2 (s33 fuX)) .e .e))) (.n 39 (w2 (s39 fuX)) (.n 37 (w2 (s37 fuX)) (.n 36 (w2 (s36 fuX)) (.n 35 (w1 (s35 fuX)) .e .e) .e) (.n 38 (w1 (s38 fuX)) .e .e)) (.n 41 (w1 (s41 fuX)) (.n 40 (w2 (s40 fuX)) .e .e) (.n 42 (w1 (s42 fuX)) .e .e)))) (.n 59 (w1 (s59 fuX)) (.n 54 (w1 (s54 fuX)) (.n 52 (w1 (s52 fuX)) (.n 51 (w1 (s51 fuX)) (.n 50 (w1 (s50 fuX)) .e .e) .e) (.n 53 (w5 (s53 fuX)) .e .e)) (.n 57 (w2 (s57 fuX)) (.n 56 (w2 (s56 fuX)) (.n 55 (w1 (s55 fuX)) .e .e) .e) (.n 58 (w1 (s58 fuX)) .e .e))) (.n 73 (w1 (s73 fuX)) (.n 62 (w1 (s62 fuX)) (.n 61 (w2 (s61 fuX)) (.n 60 (w2 (s60 fuX)) .e .e) .e) (.n 63 (w1 (s63 fuX)) .e .e)) (.n 75 (w1 (s75 fuX)) (.n 74 (w1 (s74 fuX)) .e .e) (.n 76 (w1 (s76 fuX)) .e .e))))) (.n 100 (w2 (s100 fuX)) (.n 91 (w2 (s91 fuX)) (.n 86 (w1 (s86 fuX)) (.n 84 (w5 (s84 fuX)) (.n 82 (w4 (s82 fuX)) (.n 80 (w4 (s80 fuX)) .e .e) .e) (.n 85 (w1 (s85 fuX)) .e .e)) (.n 89 (w1 (s89 fuX)) (.n 88 (w2 (s88 fuX)) (.n 87 (w1 (s87 fuX)) .e .e) .e) (.n 90 (w1 (s90 fuX)) .e .e))) (.n 96 (w1 (s96 fuX)) (.n 94 (w2 (s94 fuX)) (.n 93 (w2 (s93 fuX)) (.n 92 (w1 (s92 fuX)) .e .e) .e) (.n 95 (w1 (s95 fuX)) .e .e)) (.n 98 (w3 (s98 fuX)) (.n 97 (w1 (s97 fuX)) .e .e) (.n 99 (w2 (s99 fuX)) .e .e)))) (.n 131 (w2 (s131 fuX)) (.n 123 (w1 (s123 fuX)) (.n 103 (w2 (s103 fuX)) (.n 102 (w2 (s102 fuX)) (.n 101 (w2 (s101 fuX)) .e .e) .e) (.n 104 (w2 (s104 fuX)) .e .e)) (.n 129 (w6 (s129 fuX)) (.n 124 (w1 (s124 fuX)) .e .e) (.n 130 (w2 (s130 fuX)) .e .e))) (.n 136 (w2 (s136 fuX)) (.n 134 (w1 (s134 fuX)) (.n 133 (w1 (s133 fuX)) (.n 132 (w1 (s132 fuX)) .e .e) .e) (.n 135 (w1 (s135 fuX)) .e .e)) (.n 138 (fun _ => gSi) (.n 137 (w2 (s137 fuX)) .e .e) (.n 139 (w1 (s139 fuX)) .e .e)))))) (.n 209 (w2 (s209 fuX)) (.n 171 (w2 (s171 fuX)) (.n 150 (w3 (s150 fuX)) (.n 145 (w3 (s145 fuX)) (.n 143 (w1 (s143 fuX)) (.n 142 (w2 (s142 fuX)) (.n 141 (w2 (s141 fuX)) .e .e) .e) (.n 144 (w2 (s144 fuX)) .e .e)) (.n 148 (w2 (s148 fuX)) (.n 147 (w3 (s147 fuX)) (.n 146 (w4 (s146 fuX)) .e .e) .e) (.n 149 (w3 (s149 fuX)) .e .e))) (.n 155 (w3 (s155 fuX)) (.n 153 (w3 (s153 fuX)) (.n 152 (w3 (s152 fuX)) (.n 151 (w4 (s151 fuX)) .e .e) .e) (.n 154 (w5 (s154 fuX)) .e .e)) (.n 157 (w2 (s157 fuX)) (.n 156 (w2 (s156 fuX)) .e .e) (.n 158 (w1 (s158 fuX)) .e .e)))) (.n 200 (w1 (s200 fuX)) (.n 190 (w2 (s190 fuX)) (.n 187 (w2 (s187 fuX)) (.n 186 (w5 (s186 fuX)) (.n 174 (w2 (s174 fuX)) .e .e) .e) (.n 188 (w1 (s188 fuX)) .e .e)) (.n 195 (w1 (s195 fuX)) (.n 191 (fun _ => gIx) .e .e) (.n 196 (w2 (s196 fuX)) .e .e))) (.n 205 (w2 (s205 fuX)) (.n 203 (w2 (s203 fuX)) (.n 202 (w1 (s202 fuX)) (.n 201 (w1 (s201 fuX)) .e .e) .e) (.n 204 (w2 (s204 fuX)) .e .e)) (.n 207 (w1 (s207 fuX)) (.n 206 (w1 (s206 fuX)) .e .e) (.n 208 (w1 (s208 fuX)) .e .e))))) (.n 251 (w2 (s251 fuX)) (.n 236 (w1 (s236 fuX)) (.n 214 (w3 (s214 fuX)) (.n 212 (w6 (s212 fuX)) (.n 211 (w2 (s211 fuX)) (.n 210 (w1 (s210 fuX)) .e .e) .e) (.n 213 (w3 (s213 fuX)) .e .e)) (.n 225 (w2 (s225 fuX)) (.n 223 (w2 (s223 fuX)) (.n 215 (w3 (s215 fuX)) .e .e) .e) (.n 228 (w2 (s228 fuX)) .e .e))) (.n 246 (w1 (s246 fuX)) (.n 244 (w2 (s244 fuX)) (.n 238 (w1 (s238 fuX)) (.n 237 (w2 (s237 fuX)) .e .e) .e) (.n 245 (w1 (s245 fuX)) .e .e)) (.n 249 (w2 (s249 fuX)) (.n 248 (w2 (s248 fuX)) .e .e) (.n 250 (w1 (s250 fuX)) .e .e)))) (.n 270 (w2 (s270 fuX)) (.n 256 (w2 (s256 fuX)) (.n 254 (w1 (s254 fuX)) (.n 253 (w1 (s253 fuX)) (.n 252 (w1 (s252 fuX)) .e .e) .e) (.n 255 (w1 (s255 fuX)) .e .e)) (.n 258 (w1 (s258 fuX)) (.n 257 (w2 (s257 fuX)) .e .e) (.n 268 (w2 (s268 fuX)) .e .e))) (.n 291 (w1 (s291 fuX)) (.n 287 (w2 (s287 fuX)) (.n 285 (w1 (s285 fuX)) (.n 271 (w2 (s271 fuX)) .e .e) .e) (.n 289 (w2 (s289 fuX)) .e .e)) (.n 293 (w1 (s293 fuX)) (.n 292 (w1 (s292 fuX)) .e .e) (.n 311 (fun _ => gId) .e .e)))))))
theorem fnsOk : ∀ x ∈ fns.toL, PfOk Tryz.prog tbx mtab x.1 x.2 := (all_cons p4 (all_cons p18 (all_cons p19 (all_cons p20 (all_cons p21 (all_cons p22 (all_cons p31 (all_cons p32 (all_cons p33 (all_cons p34 (all_cons p35 (all_cons p36 (all_cons p37 (all_cons p38 (all_cons p39 (all_cons p40 (all_cons p41 (all_cons p42 (all_cons p49 (all_cons p50 (all_cons p51 (all_cons p52 (all_cons p53 (all_cons p54 (all_cons p55 (all_cons p56 (all_cons p57 (all_cons p58 (all_cons p59 (all_cons p60 (all_cons p61 (all_cons p62 (all_cons p63 (all_cons p73 (all_cons p74 (all_cons p75 (all_cons p76 (all_cons p77 (all_cons p80 (all_cons p82 (all_cons p84 (all_cons p85 (all_cons p86 (all_cons p87 (all_cons p88 (all_cons p89 (all_cons p90 (all_cons p91 (all_cons p92 (all_cons p93 (all_cons p94 (all_cons p95 (all_cons p96 (all_cons p97 (all_cons p98 (all_cons p99 (all_cons p100 (all_cons p101 (all_cons p102 (all_cons p103 (all_cons p104 (all_cons p123 (all_cons p124 (all_cons p129 (all_cons p130 (all_cons p131 (all_cons p132 (all_cons p133 (all_cons p134 (all_cons p135 (all_cons p136 (all_cons p137 (all_cons (pf_ext sd138) (all_cons p139 (all_cons p140 (all_cons p141 (all_cons p142 (all_cons p143 (all_cons p144 (all_cons p145 (all_cons p146 (all_cons p147 (all_cons p148 (all_cons p149 (all_cons p150 (all_cons p151 (all_cons p152 (all_cons p153 (all_cons p154 (all_cons p155 (all_cons p156 (all_cons p157 (all_cons p158 (all_cons p171 (all_cons p174 (all_cons p186 (all_cons p187 (all_cons p188 (all_cons p190 (all_cons (pf_ext sd191) (all_cons p195 (all_cons p196 (all_cons p200 (all_cons p201 (all_cons p202 (all_cons p203 (all_cons p204 (all_cons p205 (all_cons p206 (all_cons p207 (all_cons p208 (all_cons p209 (all_cons p210 (all_cons p211 (all_cons p212 (all_cons p213 (all_cons p214 (all_cons p215 (all_cons p223 (all_cons p225 (all_cons p228 (all_cons p236 (all_cons p237 (all_cons p238 (all_cons p244 (all_cons p245 (all_cons p246 (all_cons p248 (all_cons p249 (all_cons p250 (all_cons p251 (all_cons p252 (all_cons p253 (all_cons p254 (all_cons p255 (all_cons p256 (all_cons p257 (all_cons p258 (all_cons p268 (all_cons p270 (all_cons p271 (all_cons p285 (all_cons p287 (all_cons p289 (all_cons p291 (all_cons p292 (all_cons p293 (all_cons (pf_ext sd311) all_nil))))))))))))))))))))))))))))))))))))))))))))))))))))))))))))))))))))))))))))))))))))))))))))))))))))))))))))))))))))))))))))))))))))))))))))))))))))
noncomputable def cfX (d : Nat) : CF := cfB fns d
theorem cfX_ok (d : Nat) (f : FuncId) : Sd Tryz.prog f (cfX d f) := cfB_ok fnsOk d f
end Go.Proofs.Nw.X
end
section
/- XR: from the evaluator's word to a call from whatever world. -/
open Go Go.RowKit Go.Proofs
set_option linter.unusedVariables false
namespace Go.Proofs.Nw.X
open Go.Proofs.Nw.K

noncomputable abbrev n0 : Id := [.a, .a, .a, .a, .a, .a, .a, .a]
noncomputable abbrev kEnd : KV := fun v _ _ => some v

theorem HR.begin {W : World} (hG : Gi W) : HR { w := W, pr := fun b => b < W.heap.size, lt := fun _ h => h, gp := hG.pos, gi := hG } (fun _ => none) .e n0 W where
  below := ⟨rfl, rfl, rfl, Nat.le_refl _, fun _ _ => rfl⟩
  len := rfl
  dom := fun o pl h => by cases h
  inj := fun o o' pl pl' _ _ h => by cases h
  obj := fun o pl x h => by cases h
  rsv := fun o pl h => by cases h
  lo := Nat.zero_le _

theorem law_run {P : Program} {f : FuncId} {g : Fn1} (hc : callable P f = true) (h : Sd P f g) {vs : List V} {us : List Value} (hv : g vs .e n0 kEnd = some (.b true)) {W : World} (hG : Gi W) (hu : RVs (fun _ => none) vs us) :
    Calls P f us.toArray W fun e W' => e = .returned (.bool true) ∧ Below W.heap.size W W' := by
  obtain ⟨v, h', n', h1, h2⟩ := h vs .e n0 kEnd _ hv
  have h3 := h2 _ _ W us (HR.begin hG) hu
  rw [callFunc_run hc _ W] at h3
  refine Calls.mono h3 fun e W' ⟨u, he, ι', _, hb, hr⟩ => ?_
  obtain rfl : v = .b true := Option.some.inj h1
  obtain rfl : u = .bool true := hr
  exact ⟨he, hb.below.os, hb.below.tape, hb.below.output, hb.below.size, fun k hk => hb.below.block k hk⟩

/-! ### a whole number, of which only the rest of a division counts -/
/-- the number as the program turns it into one without a sign -/
def uN : Int → Nat
  | .ofNat m => m % 18446744073709551616
  | .negSucc m => 18446744073709551615 - m % 18446744073709551616
noncomputable abbrev vN (m : Nat) : V := .i .i64 (.ofNat m)
theorem uN_nat {m : Nat} (h : m < 18446744073709551616) : uN (.ofNat m) = m := Nat.mod_eq_of_lt h
end Go.Proofs.Nw.X
end
section
/- printed by xl.py: function 4 counts the rest by 7. -/
open Go Go.RowKit Go.Proofs
set_option linter.unusedVariables false
set_option maxRecDepth 100000
namespace Go.Proofs.Nw.X
open Go.Proofs.Nw.K
theorem conv_u (i : Int) (h : H) (n : Id) (k : KV) : evConv2 tbx mtab 3 22 (.i .i64 i) h n k = k (.i .u64 (.ofNat (uN i))) h n := by
  have e : evConv2 tbx mtab 3 22 (.i .i64 i) h n k = fI (wrapK .u64 i) fun r => k (.i .u64 r) h n := by kernel_rfl
  rw [e, fI_eq]
  cases i <;> rfl
theorem rem_u (a : Nat) (kk : KP) : evBin2 tbx .rem 22 (.i .u64 (.ofNat a)) (.i .u64 7) kk = kk (.i .u64 (.ofNat (a % 7))) := by
  have e : evBin2 tbx .rem 22 (.i .u64 (.ofNat a)) (.i .u64 7) kk = fI (Int.tmod (.ofNat a) (.ofNat 7)) fun r => kk (.i .u64 r) := by kernel_rfl
  rw [e, fI_eq]
  rfl
noncomputable def t4 (rm : H → Id → KV → R) (fu : Nat) (cf : CF) (a0 : V) (h : H) (n : Id) (k : KV) : R :=
 evBuild tbx 24 [(0, (.s 1 103)), (1, (.s 1 97)), (2, (.s 1 49))] fun v1 =>
 evAlloc tbx 24 h n fun v2 h n =>
 evStore tbx 24 v2 v1 h n fun _ h n =>
 evBuild tbx 32 [(1, (.s 1 103)), (2, (.s 1 97)), (3, (.s 1 49))] fun v3 =>
 evAlloc tbx 32 h n fun v4 h n =>
 evStore tbx 32 v4 v3 h n fun _ h n =>
 rm h n fun v6 h n =>
 jp (fun (s7 : VT [3, 4, 5]) (h : H) (n : Id) =>
 pc s7 fun v9 s10 =>
 pc s10 fun v11 s12 =>
 pc s12 fun v13 s14 =>
 evLoad tbx 32 v11 h fun v15 =>
 cf 18 [v15] h n fun v16 h n =>
 evExt 0 v16 fun v17 =>
 evExt 1 v16 fun v18 =>
 evLoad tbx 24 v9 h fun v19 =>
 evBuild tbx 37 [(0, v19), (1, v17)] fun v20 =>
 evBuildSl tbx 28 1 [(0, v20)] h n fun v21 h n =>
 cf 19 [v21] h n fun v22 h n =>
 evExt 0 v22 fun v23 =>
 evExt 1 v22 fun v24 =>
 evLoad tbx 24 v9 h fun v25 =>
 cf 22 [v23, v25] h n fun v26 h n =>
 evExt 0 v26 fun v27 =>
 evExt 1 v26 fun v28 =>
 evAlloc tbx 32 h n fun v29 h n =>
 evStore tbx 32 v29 v27 h n fun _ h n =>
 evBuild tbx 24 [(0, (.s 1 103)), (1, (.s 1 97)), (2, (.s 1 51))] fun v30 =>
 cf 22 [v23, v30] h n fun v31 h n =>
 evExt 0 v31 fun v32 =>
 evExt 1 v31 fun v33 =>
 evAlloc tbx 32 h n fun v34 h n =>
 evStore tbx 32 v34 v32 h n fun _ h n =>
 cf 21 [] h n fun v35 h n =>
 jp (fun (v36 : V) (h : H) (n : Id) =>
 jp (fun (v38 : V) (h : H) (n : Id) =>
 evPick v35 v38 (.b false) fun v40 =>
 jp (fun (v41 : V) (h : H) (n : Id) =>
 jp (fun (v43 : V) (h : H) (n : Id) =>
 jp (fun (v45 : V) (h : H) (n : Id) =>
 evPick v40 v45 (.b false) fun v47 =>
 jp (fun (v48 : V) (h : H) (n : Id) =>
 jp (fun (v50 : V) (h : H) (n : Id) =>
 jp (fun (v52 : V) (h : H) (n : Id) =>
 jp (fun (v54 : V) (h : H) (n : Id) =>
 jp (fun (v56 : V) (h : H) (n : Id) =>
 jp (fun (v58 : V) (h : H) (n : Id) =>
 evPick v47 v58 (.b false) fun v60 =>
 jp (fun (v61 : V) (h : H) (n : Id) =>
 jp (fun (v63 : V) (h : H) (n : Id) =>
 evPick v60 v63 (.b false) fun v65 =>
 k v65 h n) fun kk64 =>
 gdB v60 true ((evBin2 tbx .eql 33 v61 (.i .i64 14) fun v => kk64 v h n)) (kk64 (.tp []) h n)) fun kk62 =>
 gdB v60 true (kk62 v33 h n) (kk62 (.tp []) h n)) fun kk59 =>
 gdB v47 true ((evBin2 tbx .eql 4 v50 v56 fun v => kk59 v h n)) (kk59 (.tp []) h n)) fun kk57 =>
 gdB v47 true ((evBin2 tbx .eql 9 v54 (.s 1 97) fun v => kk57 v h n)) (kk57 (.tp []) h n)) fun kk55 =>
 gdB v47 true ((evLoad tbx 9 v52 h fun v => kk55 v h n)) (kk55 (.tp []) h n)) fun kk53 =>
 gdB v47 true ((evFa tbx 32 2 v29 fun v => kk53 v h n)) (kk53 (.tp []) h n)) fun kk51 =>
 gdB v47 true ((evBin2 tbx .eql 33 v48 (.i .i64 0) fun v => kk51 v h n)) (kk51 (.tp []) h n)) fun kk49 =>
 gdB v47 true (kk49 v28 h n) (kk49 (.tp []) h n)) fun kk46 =>
 gdB v40 true ((evBin2 tbx .eql 33 v41 v43 fun v => kk46 v h n)) (kk46 (.tp []) h n)) fun kk44 =>
 gdB v40 true (kk44 v13 h n) (kk44 (.tp []) h n)) fun kk42 =>
 gdB v40 true (kk42 v28 h n) (kk42 (.tp []) h n)) fun kk39 =>
 gdB v35 true ((evBin2 tbx .eql 33 v36 (.i .i64 0) fun v => kk39 v h n)) (kk39 (.tp []) h n)) fun kk37 =>
 gdB v35 true (kk37 v24 h n) (kk37 (.tp []) h n)) fun kk8 =>
 evBin2 tbx .eql 22 v6 (.i .u64 0) fun v66 =>
 brB v66 (
 evFa tbx 32 2 v4 fun v67 =>
 evStore tbx 9 v67 (.s 1 98) h n fun _ h n =>
 kk8 (v2, v4, (.i .i64 15), ()) h n) (
 evBin2 tbx .eql 22 v6 (.i .u64 1) fun v68 =>
 brB v68 (
 evFa tbx 32 1 v4 fun v69 =>
 evStore tbx 9 v69 (.s 1 104) h n fun _ h n =>
 kk8 (v2, v4, (.i .i64 15), ()) h n) (
 evBin2 tbx .eql 22 v6 (.i .u64 2) fun v70 =>
 brB v70 (
 evFa tbx 32 3 v4 fun v71 =>
 evStore tbx 9 v71 (.s 1 50) h n fun _ h n =>
 kk8 (v2, v4, (.i .i64 15), ()) h n) (
 evBin2 tbx .eql 22 v6 (.i .u64 3) fun v72 =>
 brB v72 (
 evFa tbx 32 1 v4 fun v73 =>
 evStore tbx 9 v73 (.s 0 0) h n fun _ h n =>
 kk8 (v2, v4, (.i .i64 15), ()) h n) (
 evBin2 tbx .eql 22 v6 (.i .u64 4) fun v74 =>
 brB v74 (
 evBuild tbx 24 [(0, (.s 1 103)), (1, (.s 2 30064)), (2, (.s 1 49))] fun v75 =>
 evFa tbx 32 1 v4 fun v76 =>
 evStore tbx 9 v76 (.s 0 0) h n fun _ h n =>
 evFa tbx 32 3 v4 fun v77 =>
 evStore tbx 9 v77 (.s 0 0) h n fun _ h n =>
 evFa tbx 32 0 v4 fun v78 =>
 evStore tbx 24 v78 v75 h n fun _ h n =>
 kk8 (v2, v4, (.i .i64 0), ()) h n) (
 evBin2 tbx .eql 22 v6 (.i .u64 5) fun v79 =>
 brB v79 (
 evBuild tbx 24 [(0, (.s 1 104)), (1, (.s 2 30064)), (2, (.s 1 49))] fun v80 =>
 evFa tbx 32 1 v4 fun v81 =>
 evStore tbx 9 v81 (.s 0 0) h n fun _ h n =>
 evFa tbx 32 0 v4 fun v82 =>
 evStore tbx 24 v82 v80 h n fun _ h n =>
 kk8 (v2, v4, (.i .i64 15), ()) h n) (
 kk8 (v2, v4, (.i .i64 0), ()) h n))))))
noncomputable def rm4 (i : Int) : H → Id → KV → R := fun h n k => evConv2 tbx mtab 3 22 (.i .i64 i) h n fun v h n => evBin2 tbx .rem 22 v (.i .u64 7) fun v => k v h n
theorem rm4_eq (i : Int) : rm4 i = rm4 (.ofNat (uN i % 7)) := by
  funext h n k
  unfold rm4
  rw [conv_u, conv_u, rem_u, rem_u, uN_nat (Nat.lt_trans (Nat.mod_lt _ (by omega)) (by omega : 7 < 18446744073709551616)), Nat.mod_mod]
theorem s4_t (fu : Nat) (cf : CF) (i : Int) (h : H) (n : Id) (k : KV) : s4 fu cf (.i .i64 i) h n k = t4 (rm4 i) fu cf (.i .i64 i) h n k := by kernel_rfl
theorem t4_n (rm : H → Id → KV → R) (fu : Nat) (cf : CF) (x y : V) (h : H) (n : Id) (k : KV) : t4 rm fu cf x h n k = t4 rm fu cf y h n k := by kernel_rfl
theorem s4_r (fu : Nat) (cf : CF) (i : Int) (h : H) (n : Id) (k : KV) : s4 fu cf (.i .i64 i) h n k = s4 fu cf (vN (uN i % 7)) h n k := by
  rw [s4_t, rm4_eq, s4_t]
  exact t4_n _ _ _  _ _ _ _ _
theorem s4_c (cf : CF) (i : Int) : w1 (s4 fuX) cf [(.i .i64 i)] .e n0 kEnd = w1 (s4 fuX) cf [vN (uN i % 7)] .e n0 kEnd := s4_r fuX cf  i .e n0 kEnd
end Go.Proofs.Nw.X
end
section
/- printed by xl.py: cases of function 4, 1. -/
open Go Go.RowKit Go.Proofs
set_option maxRecDepth 100000
namespace Go.Proofs.Nw.X
open Go.Proofs.Nw.K
theorem c4_0 : cfX 200 4 [vN 0] .e n0 kEnd = some (.b true) := by kernel_rfl
theorem c4_1 : cfX 200 4 [vN 1] .e n0 kEnd = some (.b true) := by kernel_rfl
theorem c4_2 : cfX 200 4 [vN 2] .e n0 kEnd = some (.b true) := by kernel_rfl
theorem c4_3 : cfX 200 4 [vN 3] .e n0 kEnd = some (.b true) := by kernel_rfl
end Go.Proofs.Nw.X
end
section
/- printed by xl.py: cases of function 4, 2. -/
open Go Go.RowKit Go.Proofs
set_option maxRecDepth 100000
namespace Go.Proofs.Nw.X
open Go.Proofs.Nw.K
theorem c4_4 : cfX 200 4 [vN 4] .e n0 kEnd = some (.b true) := by kernel_rfl
theorem c4_5 : cfX 200 4 [vN 5] .e n0 kEnd = some (.b true) := by kernel_rfl
theorem c4_6 : cfX 200 4 [vN 6] .e n0 kEnd = some (.b true) := by kernel_rfl
end Go.Proofs.Nw.X
end
section
/- printed by xl.py: function 4 returns true. -/
open Go Go.RowKit Go.Proofs
set_option maxRecDepth 100000
namespace Go.Proofs.Nw.X
open Go.Proofs.Nw.K
theorem all4 (r : Nat) (hr : r < 7) : cfX 200 4 [vN r] .e n0 kEnd = some (.b true) := by
  match r, hr with
  | 0, _ => exact c4_0
  | 1, _ => exact c4_1
  | 2, _ => exact c4_2
  | 3, _ => exact c4_3
  | 4, _ => exact c4_4
  | 5, _ => exact c4_5
  | 6, _ => exact c4_6
  | r + 7, hr => exact absurd hr (by omega)
theorem run4 (i : Int) {W : World} (hG : Gi W) : Calls Tryz.prog 4 #[.int .i64 i] W fun e W' => e = .returned (.bool true) ∧ Below W.heap.size W W' := by
  have e : ∀ vs h n k, cfX 200 4 vs h n k = w1 (s4 fuX) (cfX 199) vs h n k := fun vs h n k => by kernel_rfl
  refine law_run (us := [.int .i64 i]) (vs := [(.i .i64 i)]) (by kernel_rfl) (cfX_ok 200 4) ?_ hG ?_
  · rw [e, s4_c, ← e]; exact all4 _ (Nat.mod_lt _ (by omega))
  · exact ⟨_, _, rfl, rfl, rfl⟩
end Go.Proofs.Nw.X
end
