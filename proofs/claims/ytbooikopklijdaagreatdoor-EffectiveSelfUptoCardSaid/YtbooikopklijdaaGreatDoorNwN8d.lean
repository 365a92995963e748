/- Bundle: NwX8D0, NwX8D. -/
import Derived.Test.YtbooikopklijdaaGreatDoorNwN13
import Derived.Test.YtbooikopklijdaaGreatDoorNwN8c1
import Derived.Test.YtbooikopklijdaaGreatDoorNwN8c2
import Derived.Test.YtbooikopklijdaaGreatDoorNwN8c3
set_option linter.constructorNameAsVariable false
set_option linter.unusedVariables false
set_option linter.unusedSimpArgs false
set_option linter.unusedSectionVars false
section
/- printed by xl.py: function 8 counts the rest by 100. -/
open Go Go.RowKit Go.Proofs
set_option linter.unusedVariables false
set_option maxRecDepth 100000
namespace Go.Proofs.Nw.X
open Go.Proofs.Nw.K
theorem conv_u (i : Int) (h : H) (n : Id) (k : KV) : evConv2 tbx mtab 3 22 (.i .i64 i) h n k = k (.i .u64 (.ofNat (uN i))) h n := by
  have e : evConv2 tbx mtab 3 22 (.i .i64 i) h n k = fI (wrapK .u64 i) fun r => k (.i .u64 r) h n := by kernel_rfl
  rw [e, fI_eq]
  cases i <;> rfl
theorem rem_u (a : Nat) (kk : KP) : evBin2 tbx .rem 22 (.i .u64 (.ofNat a)) (.i .u64 100) kk = kk (.i .u64 (.ofNat (a % 100))) := by
  have e : evBin2 tbx .rem 22 (.i .u64 (.ofNat a)) (.i .u64 100) kk = fI (Int.tmod (.ofNat a) (.ofNat 100)) fun r => kk (.i .u64 r) := by kernel_rfl
  rw [e, fI_eq]
  rfl
noncomputable def t8 (rm : H → Id → KV → R) (fu : Nat) (cf : CF) (a0 a1 : V) (h : H) (n : Id) (k : KV) : R :=
 rm h n fun v2 h n =>
 evConv2 tbx mtab 22 3 v2 h n fun v3 h n =>
 evBin2 tbx .add 3 (.i .i64 1) v3 fun v4 =>
 cf 16 [v4] h n fun v5 h n =>
 evCall cf (.fn 26 []) [(.s 15 583858270104738274456757006937114980)] h n fun v6 h n =>
 evBin2 tbx .add 9 v6 (.s 2 11896) fun v7 =>
 evCall cf (.fn 26 []) [(.s 18 9795516310933536653999961122899636987906404)] h n fun v8 h n =>
 evBin2 tbx .add 9 v8 (.s 2 11641) fun v9 =>
 evCall cf (.fn 26 []) [(.s 15 583858270104738274460964850787512174)] h n fun v10 h n =>
 evBuild tbx 51 [(0, v7), (1, v9), (2, v10)] fun v11 =>
 evAlloc tbx 51 h n fun v12 h n =>
 evStore tbx 51 v12 v11 h n fun _ h n =>
 evBuild tbx 32 [(1, (.s 1 103)), (2, (.s 1 97)), (3, v5)] fun v13 =>
 evAlloc tbx 32 h n fun v14 h n =>
 evStore tbx 32 v14 v13 h n fun _ h n =>
 evBuild tbx 32 [(1, (.s 1 103)), (2, (.s 2 30064)), (3, (.s 1 55))] fun v15 =>
 evAlloc tbx 32 h n fun v16 h n =>
 evStore tbx 32 v16 v15 h n fun _ h n =>
 jp (fun (s17 : VT [5, 8, 9]) h n =>
 pc s17 fun v19 s20 =>
 pc s20 fun v21 s22 =>
 pc s22 fun v23 s24 =>
 evLoad tbx 32 v21 h fun v25 =>
 cf 18 [v25] h n fun v26 h n =>
 evExt 0 v26 fun v27 =>
 evExt 1 v26 fun v28 =>
 evLoad tbx 32 v23 h fun v29 =>
 cf 18 [v29] h n fun v30 h n =>
 evExt 0 v30 fun v31 =>
 evExt 1 v30 fun v32 =>
 evBuild tbx 24 [(0, (.s 1 103)), (1, (.s 1 97)), (2, v19)] fun v33 =>
 evAlloc tbx 24 h n fun v34 h n =>
 evStore tbx 24 v34 v33 h n fun _ h n =>
 evLoad tbx 24 v34 h fun v35 =>
 evBuild tbx 37 [(0, v35), (1, v27)] fun v36 =>
 evBuild tbx 24 [(0, (.s 1 103)), (1, (.s 2 30064)), (2, (.s 1 55))] fun v37 =>
 evBuild tbx 37 [(0, v37), (1, v31)] fun v38 =>
 evBuildSl tbx 28 2 [(0, v36), (1, v38)] h n fun v39 h n =>
 cf 23 [v39] h n fun v40 h n =>
 evExt 0 v40 fun v41 =>
 evExt 1 v40 fun v42 =>
 evLoad tbx 24 v34 h fun v43 =>
 cf 24 [v41, v43] h n fun v44 h n =>
 evExt 0 v44 fun v45 =>
 evExt 1 v44 fun v46 =>
 evAlloc tbx 32 h n fun v47 h n =>
 evStore tbx 32 v47 v45 h n fun _ h n =>
 cf 25 [] h n fun v48 h n =>
 jp (fun (v49 : V) h n =>
 jp (fun (v51 : V) h n =>
 evPick v48 v51 (.b false) fun v53 =>
 jp (fun (v54 : V) h n =>
 jp (fun (v56 : V) h n =>
 jp (fun (v58 : V) h n =>
 jp (fun (v60 : V) h n =>
 evPick v53 v60 (.b false) fun v62 =>
 jp (fun (v63 : V) h n =>
 jp (fun (v65 : V) h n =>
 jp (fun (v67 : V) h n =>
 jp (fun (v69 : V) h n =>
 jp (fun (v71 : V) h n =>
 jp (fun (v73 : V) h n =>
 evPick v62 v73 (.b false) fun v75 =>
 jp (fun (v76 : V) h n =>
 jp (fun (v78 : V) h n =>
 jp (fun (v80 : V) h n =>
 jp (fun (v82 : V) h n =>
 jp (fun (v84 : V) h n =>
 jp (fun (v86 : V) h n =>
 evPick v75 v86 (.b false) fun v88 =>
 jp (fun (v89 : V) h n =>
 jp (fun (v91 : V) h n =>
 jp (fun (v93 : V) h n =>
 jp (fun (v95 : V) h n =>
 jp (fun (v97 : V) h n =>
 jp (fun (v99 : V) h n =>
 jp (fun (v101 : V) h n =>
 evPick v88 v101 (.b false) fun v103 =>
 jp (fun (v104 : V) h n =>
 jp (fun (v106 : V) h n =>
 jp (fun (v108 : V) h n =>
 jp (fun (v110 : V) h n =>
 jp (fun (v112 : V) h n =>
 jp (fun (v114 : V) h n =>
 evPick v103 v114 (.b false) fun v116 =>
 k v116 h n) fun kk115 =>
 gdB v103 true ((evBin2 tbx .eql 9 v112 (.s 3 6971762) fun v => kk115 v h n)) (kk115 (.tp []) h n)) fun kk113 =>
 gdB v103 true ((evLoad tbx 9 v110 h fun v => kk113 v h n)) (kk113 (.tp []) h n)) fun kk111 =>
 gdB v103 true ((evFa tbx 51 3 v108 fun v => kk111 v h n)) (kk111 (.tp []) h n)) fun kk109 =>
 gdB v103 true ((evIa tbx 30 v106 (.i .i64 0) fun v => kk109 v h n)) (kk109 (.tp []) h n)) fun kk107 =>
 gdB v103 true ((evLoad tbx 30 v104 h fun v => kk107 v h n)) (kk107 (.tp []) h n)) fun kk105 =>
 gdB v103 true ((evFa tbx 32 7 v47 fun v => kk105 v h n)) (kk105 (.tp []) h n)) fun kk102 =>
 gdB v88 true ((evBin2 tbx .eql 9 v97 v99 fun v => kk102 v h n)) (kk102 (.tp []) h n)) fun kk100 =>
 gdB v88 true (kk100 v19 h n) (kk100 (.tp []) h n)) fun kk98 =>
 gdB v88 true ((evLoad tbx 9 v95 h fun v => kk98 v h n)) (kk98 (.tp []) h n)) fun kk96 =>
 gdB v88 true ((evFa tbx 51 2 v93 fun v => kk96 v h n)) (kk96 (.tp []) h n)) fun kk94 =>
 gdB v88 true ((evIa tbx 30 v91 (.i .i64 0) fun v => kk94 v h n)) (kk94 (.tp []) h n)) fun kk92 =>
 gdB v88 true ((evLoad tbx 30 v89 h fun v => kk92 v h n)) (kk92 (.tp []) h n)) fun kk90 =>
 gdB v88 true ((evFa tbx 32 7 v47 fun v => kk90 v h n)) (kk90 (.tp []) h n)) fun kk87 =>
 gdB v75 true ((evBin2 tbx .eql 9 v84 (.s 3 6368633) fun v => kk87 v h n)) (kk87 (.tp []) h n)) fun kk85 =>
 gdB v75 true ((evLoad tbx 9 v82 h fun v => kk85 v h n)) (kk85 (.tp []) h n)) fun kk83 =>
 gdB v75 true ((evFa tbx 51 1 v80 fun v => kk83 v h n)) (kk83 (.tp []) h n)) fun kk81 =>
 gdB v75 true ((evIa tbx 30 v78 (.i .i64 0) fun v => kk81 v h n)) (kk81 (.tp []) h n)) fun kk79 =>
 gdB v75 true ((evLoad tbx 30 v76 h fun v => kk79 v h n)) (kk79 (.tp []) h n)) fun kk77 =>
 gdB v75 true ((evFa tbx 32 7 v47 fun v => kk77 v h n)) (kk77 (.tp []) h n)) fun kk74 =>
 gdB v62 true ((evBin2 tbx .eql 9 v71 (.s 3 6762104) fun v => kk74 v h n)) (kk74 (.tp []) h n)) fun kk72 =>
 gdB v62 true ((evLoad tbx 9 v69 h fun v => kk72 v h n)) (kk72 (.tp []) h n)) fun kk70 =>
 gdB v62 true ((evFa tbx 51 0 v67 fun v => kk70 v h n)) (kk70 (.tp []) h n)) fun kk68 =>
 gdB v62 true ((evIa tbx 30 v65 (.i .i64 0) fun v => kk68 v h n)) (kk68 (.tp []) h n)) fun kk66 =>
 gdB v62 true ((evLoad tbx 30 v63 h fun v => kk66 v h n)) (kk66 (.tp []) h n)) fun kk64 =>
 gdB v62 true ((evFa tbx 32 7 v47 fun v => kk64 v h n)) (kk64 (.tp []) h n)) fun kk61 =>
 gdB v53 true ((evBin2 tbx .eql 3 v58 (.i .i64 1) fun v => kk61 v h n)) (kk61 (.tp []) h n)) fun kk59 =>
 gdB v53 true ((evLen tbx 30 v56 fun v => kk59 v h n)) (kk59 (.tp []) h n)) fun kk57 =>
 gdB v53 true ((evLoad tbx 30 v54 h fun v => kk57 v h n)) (kk57 (.tp []) h n)) fun kk55 =>
 gdB v53 true ((evFa tbx 32 7 v47 fun v => kk55 v h n)) (kk55 (.tp []) h n)) fun kk52 =>
 gdB v48 true ((evBin2 tbx .eql 33 v49 (.i .i64 0) fun v => kk52 v h n)) (kk52 (.tp []) h n)) fun kk50 =>
 gdB v48 true (kk50 v46 h n) (kk50 (.tp []) h n)) fun kk18 =>
 brB a1 (
 evBuild tbx 24 [(0, (.s 1 103)), (1, (.s 2 30064)), (2, (.s 1 55))] fun v117 =>
 evFa tbx 32 0 v14 fun v118 =>
 evStore tbx 24 v118 v117 h n fun _ h n =>
 evLoad tbx 51 v12 h fun v119 =>
 evBuildSl tbx 30 1 [(0, v119)] h n fun v120 h n =>
 evFa tbx 32 7 v16 fun v121 =>
 evStore tbx 30 v121 v120 h n fun _ h n =>
 kk18 (v5, v14, v16, ()) h n) (
 evLoad tbx 51 v12 h fun v122 =>
 evBuildSl tbx 30 1 [(0, v122)] h n fun v123 h n =>
 evFa tbx 32 7 v14 fun v124 =>
 evStore tbx 30 v124 v123 h n fun _ h n =>
 kk18 (v5, v14, v16, ()) h n)
noncomputable def rm8 (i : Int) : H → Id → KV → R := fun h n k => evConv2 tbx mtab 3 22 (.i .i64 i) h n fun v h n => evBin2 tbx .rem 22 v (.i .u64 100) fun v => k v h n
theorem rm8_eq (i : Int) : rm8 i = rm8 (.ofNat (uN i % 100)) := by
  funext h n k
  unfold rm8
  rw [conv_u, conv_u, rem_u, rem_u, uN_nat (Nat.lt_trans (Nat.mod_lt _ (by omega)) (by omega : 100 < 18446744073709551616)), Nat.mod_mod]
theorem s8_t (fu : Nat) (cf : CF) (a1 : V) (i : Int) (h : H) (n : Id) (k : KV) : s8 fu cf (.i .i64 i) a1 h n k = t8 (rm8 i) fu cf (.i .i64 i) a1 h n k := by kernel_rfl
theorem t8_n (rm : H → Id → KV → R) (fu : Nat) (cf : CF) (a1 : V) (x y : V) (h : H) (n : Id) (k : KV) : t8 rm fu cf x a1 h n k = t8 rm fu cf y a1 h n k := by kernel_rfl
theorem s8_r (fu : Nat) (cf : CF) (a1 : V) (i : Int) (h : H) (n : Id) (k : KV) : s8 fu cf (.i .i64 i) a1 h n k = s8 fu cf (vN (uN i % 100)) a1 h n k := by
  rw [s8_t, rm8_eq, s8_t]
  exact t8_n _ _ _ a1 _ _ _ _ _
theorem wv2 (s : CF → V → V → H → Id → KV → R) (cf : CF) (a0 a1 : V) (h : H) (n : Id) (k : KV) : w2 s cf [a0, a1] h n k = s cf a0 a1 h n k := rfl
theorem s8_c (cf : CF) (b1 : Bool) (i : Int) : w2 (s8 fuX) cf [(.i .i64 i), (.b b1)] .e n0 kEnd = w2 (s8 fuX) cf [vN (uN i % 100), .b b1] .e n0 kEnd :=
  (wv2 (s8 fuX) cf _ _ .e n0 kEnd).trans ((s8_r fuX cf (.b b1) i .e n0 kEnd).trans (wv2 (s8 fuX) cf _ _ .e n0 kEnd).symm)
end Go.Proofs.Nw.X
end
section
/- printed by xl.py: function 8 returns true. -/
open Go Go.RowKit Go.Proofs
set_option maxRecDepth 100000
namespace Go.Proofs.Nw.X
open Go.Proofs.Nw.K
theorem fa0 {P : Nat → Prop} : ∀ r, r < 0 → P r := fun r h => absurd h (Nat.not_lt_zero r)
theorem faS {P : Nat → Prop} {n : Nat} (h : ∀ r, r < n → P r) (hn : P n) : ∀ r, r < n + 1 → P r := fun r hr => (Nat.lt_or_eq_of_le (Nat.le_of_lt_succ hr)).elim (h r) (fun e => e ▸ hn)
theorem all8_t_0 : ∀ r, r < 0 → (fun r => cfY 200 8 [vN r, .b true] .e n0 kEnd = some (.b true)) r := fa0
theorem all8_t_20 : ∀ r, r < 20 → (fun r => cfY 200 8 [vN r, .b true] .e n0 kEnd = some (.b true)) r := faS (n := 19) (faS (n := 18) (faS (n := 17) (faS (n := 16) (faS (n := 15) (faS (n := 14) (faS (n := 13) (faS (n := 12) (faS (n := 11) (faS (n := 10) (faS (n := 9) (faS (n := 8) (faS (n := 7) (faS (n := 6) (faS (n := 5) (faS (n := 4) (faS (n := 3) (faS (n := 2) (faS (n := 1) (faS (P := (fun r => cfY 200 8 [vN r, .b true] .e n0 kEnd = some (.b true)) ) (n := 0) (all8_t_0) c8_0_t) c8_1_t) c8_2_t) c8_3_t) c8_4_t) c8_5_t) c8_6_t) c8_7_t) c8_8_t) c8_9_t) c8_10_t) c8_11_t) c8_12_t) c8_13_t) c8_14_t) c8_15_t) c8_16_t) c8_17_t) c8_18_t) c8_19_t
theorem all8_t_40 : ∀ r, r < 40 → (fun r => cfY 200 8 [vN r, .b true] .e n0 kEnd = some (.b true)) r := faS (n := 39) (faS (n := 38) (faS (n := 37) (faS (n := 36) (faS (n := 35) (faS (n := 34) (faS (n := 33) (faS (n := 32) (faS (n := 31) (faS (n := 30) (faS (n := 29) (faS (n := 28) (faS (n := 27) (faS (n := 26) (faS (n := 25) (faS (n := 24) (faS (n := 23) (faS (n := 22) (faS (n := 21) (faS (P := (fun r => cfY 200 8 [vN r, .b true] .e n0 kEnd = some (.b true)) ) (n := 20) (all8_t_20) c8_20_t) c8_21_t) c8_22_t) c8_23_t) c8_24_t) c8_25_t) c8_26_t) c8_27_t) c8_28_t) c8_29_t) c8_30_t) c8_31_t) c8_32_t) c8_33_t) c8_34_t) c8_35_t) c8_36_t) c8_37_t) c8_38_t) c8_39_t
theorem all8_t_60 : ∀ r, r < 60 → (fun r => cfY 200 8 [vN r, .b true] .e n0 kEnd = some (.b true)) r := faS (n := 59) (faS (n := 58) (faS (n := 57) (faS (n := 56) (faS (n := 55) (faS (n := 54) (faS (n := 53) (faS (n := 52) (faS (n := 51) (faS (n := 50) (faS (n := 49) (faS (n := 48) (faS (n := 47) (faS (n := 46) (faS (n := 45) (faS (n := 44) (faS (n := 43) (faS (n := 42) (faS (n := 41) (faS (P := (fun r => cfY 200 8 [vN r, .b true] .e n0 kEnd = some (.b true)) ) (n := 40) (all8_t_40) c8_40_t) c8_41_t) c8_42_t) c8_43_t) c8_44_t) c8_45_t) c8_46_t) c8_47_t) c8_48_t) c8_49_t) c8_50_t) c8_51_t) c8_52_t) c8_53_t) c8_54_t) c8_55_t) c8_56_t) c8_57_t) c8_58_t) c8_59_t
theorem all8_t_80 : ∀ r, r < 80 → (fun r => cfY 200 8 [vN r, .b true] .e n0 kEnd = some (.b true)) r := faS (n := 79) (faS (n := 78) (faS (n := 77) (faS (n := 76) (faS (n := 75) (faS (n := 74) (faS (n := 73) (faS (n := 72) (faS (n := 71) (faS (n := 70) (faS (n := 69) (faS (n := 68) (faS (n := 67) (faS (n := 66) (faS (n := 65) (faS (n := 64) (faS (n := 63) (faS (n := 62) (faS (n := 61) (faS (P := (fun r => cfY 200 8 [vN r, .b true] .e n0 kEnd = some (.b true)) ) (n := 60) (all8_t_60) c8_60_t) c8_61_t) c8_62_t) c8_63_t) c8_64_t) c8_65_t) c8_66_t) c8_67_t) c8_68_t) c8_69_t) c8_70_t) c8_71_t) c8_72_t) c8_73_t) c8_74_t) c8_75_t) c8_76_t) c8_77_t) c8_78_t) c8_79_t
theorem all8_t_100 : ∀ r, r < 100 → (fun r => cfY 200 8 [vN r, .b true] .e n0 kEnd = some (.b true)) r := faS (n := 99) (faS (n := 98) (faS (n := 97) (faS (n := 96) (faS (n := 95) (faS (n := 94) (faS (n := 93) (faS (n := 92) (faS (n := 91) (faS (n := 90) (faS (n := 89) (faS (n := 88) (faS (n := 87) (faS (n := 86) (faS (n := 85) (faS (n := 84) (faS (n := 83) (faS (n := 82) (faS (n := 81) (faS (P := (fun r => cfY 200 8 [vN r, .b true] .e n0 kEnd = some (.b true)) ) (n := 80) (all8_t_80) c8_80_t) c8_81_t) c8_82_t) c8_83_t) c8_84_t) c8_85_t) c8_86_t) c8_87_t) c8_88_t) c8_89_t) c8_90_t) c8_91_t) c8_92_t) c8_93_t) c8_94_t) c8_95_t) c8_96_t) c8_97_t) c8_98_t) c8_99_t
theorem all8_f_0 : ∀ r, r < 0 → (fun r => cfY 200 8 [vN r, .b false] .e n0 kEnd = some (.b true)) r := fa0
theorem all8_f_20 : ∀ r, r < 20 → (fun r => cfY 200 8 [vN r, .b false] .e n0 kEnd = some (.b true)) r := faS (n := 19) (faS (n := 18) (faS (n := 17) (faS (n := 16) (faS (n := 15) (faS (n := 14) (faS (n := 13) (faS (n := 12) (faS (n := 11) (faS (n := 10) (faS (n := 9) (faS (n := 8) (faS (n := 7) (faS (n := 6) (faS (n := 5) (faS (n := 4) (faS (n := 3) (faS (n := 2) (faS (n := 1) (faS (P := (fun r => cfY 200 8 [vN r, .b false] .e n0 kEnd = some (.b true)) ) (n := 0) (all8_f_0) c8_0_f) c8_1_f) c8_2_f) c8_3_f) c8_4_f) c8_5_f) c8_6_f) c8_7_f) c8_8_f) c8_9_f) c8_10_f) c8_11_f) c8_12_f) c8_13_f) c8_14_f) c8_15_f) c8_16_f) c8_17_f) c8_18_f) c8_19_f
theorem all8_f_40 : ∀ r, r < 40 → (fun r => cfY 200 8 [vN r, .b false] .e n0 kEnd = some (.b true)) r := faS (n := 39) (faS (n := 38) (faS (n := 37) (faS (n := 36) (faS (n := 35) (faS (n := 34) (faS (n := 33) (faS (n := 32) (faS (n := 31) (faS (n := 30) (faS (n := 29) (faS (n := 28) (faS (n := 27) (faS (n := 26) (faS (n := 25) (faS (n := 24) (faS (n := 23) (faS (n := 22) (faS (n := 21) (faS (P := (fun r => cfY 200 8 [vN r, .b false] .e n0 kEnd = some (.b true)) ) (n := 20) (all8_f_20) c8_20_f) c8_21_f) c8_22_f) c8_23_f) c8_24_f) c8_25_f) c8_26_f) c8_27_f) c8_28_f) c8_29_f) c8_30_f) c8_31_f) c8_32_f) c8_33_f) c8_34_f) c8_35_f) c8_36_f) c8_37_f) c8_38_f) c8_39_f
theorem all8_f_60 : ∀ r, r < 60 → (fun r => cfY 200 8 [vN r, .b false] .e n0 kEnd = some (.b true)) r := faS (n := 59) (faS (n := 58) (faS (n := 57) (faS (n := 56) (faS (n := 55) (faS (n := 54) (faS (n := 53) (faS (n := 52) (faS (n := 51) (faS (n := 50) (faS (n := 49) (faS (n := 48) (faS (n := 47) (faS (n := 46) (faS (n := 45) (faS (n := 44) (faS (n := 43) (faS (n := 42) (faS (n := 41) (faS (P := (fun r => cfY 200 8 [vN r, .b false] .e n0 kEnd = some (.b true)) ) (n := 40) (all8_f_40) c8_40_f) c8_41_f) c8_42_f) c8_43_f) c8_44_f) c8_45_f) c8_46_f) c8_47_f) c8_48_f) c8_49_f) c8_50_f) c8_51_f) c8_52_f) c8_53_f) c8_54_f) c8_55_f) c8_56_f) c8_57_f) c8_58_f) c8_59_f
theorem all8_f_80 : ∀ r, r < 80 → (fun r => cfY 200 8 [vN r, .b false] .e n0 kEnd = some (.b true)) r := faS (n := 79) (faS (n := 78) (faS (n := 77) (faS (n := 76) (faS (n := 75) (faS (n := 74) (faS (n := 73) (faS (n := 72) (faS (n := 71) (faS (n := 70) (faS (n := 69) (faS (n := 68) (faS (n := 67) (faS (n := 66) (faS (n := 65) (faS (n := 64) (faS (n := 63) (faS (n := 62) (faS (n := 61) (faS (P := (fun r => cfY 200 8 [vN r, .b false] .e n0 kEnd = some (.b true)) ) (n := 60) (all8_f_60) c8_60_f) c8_61_f) c8_62_f) c8_63_f) c8_64_f) c8_65_f) c8_66_f) c8_67_f) c8_68_f) c8_69_f) c8_70_f) c8_71_f) c8_72_f) c8_73_f) c8_74_f) c8_75_f) c8_76_f) c8_77_f) c8_78_f) c8_79_f
theorem all8_f_100 : ∀ r, r < 100 → (fun r => cfY 200 8 [vN r, .b false] .e n0 kEnd = some (.b true)) r := faS (n := 99) (faS (n := 98) (faS (n := 97) (faS (n := 96) (faS (n := 95) (faS (n := 94) (faS (n := 93) (faS (n := 92) (faS (n := 91) (faS (n := 90) (faS (n := 89) (faS (n := 88) (faS (n := 87) (faS (n := 86) (faS (n := 85) (faS (n := 84) (faS (n := 83) (faS (n := 82) (faS (n := 81) (faS (P := (fun r => cfY 200 8 [vN r, .b false] .e n0 kEnd = some (.b true)) ) (n := 80) (all8_f_80) c8_80_f) c8_81_f) c8_82_f) c8_83_f) c8_84_f) c8_85_f) c8_86_f) c8_87_f) c8_88_f) c8_89_f) c8_90_f) c8_91_f) c8_92_f) c8_93_f) c8_94_f) c8_95_f) c8_96_f) c8_97_f) c8_98_f) c8_99_f
theorem all8 (b1 : Bool) (r : Nat) (hr : r < 100) : cfY 200 8 [vN r, .b b1] .e n0 kEnd = some (.b true) := by
  match b1 with
  | true => exact all8_t_100 r hr
  | false => exact all8_f_100 r hr
theorem run8 (b1 : Bool) (i : Int) {W : World} (hG : Gi W) : Calls Tryz.prog 8 #[.int .i64 i, .bool b1] W fun e W' => e = .returned (.bool true) ∧ Below W.heap.size W W' := by
  have e : ∀ vs h n k, cfY 200 8 vs h n k = w2 (s8 fuX) (cfY 199) vs h n k := fun vs h n k => by kernel_rfl
  refine law_run (us := [.int .i64 i, .bool b1]) (vs := [(.i .i64 i), (.b b1)]) (by kernel_rfl) (cfY_ok 200 8) ?_ hG ?_
  · rw [e, s8_c, ← e]; exact all8 b1 _ (Nat.mod_lt _ (by omega))
  · exact ⟨_, _, rfl, rfl, ⟨_, _, rfl, rfl, rfl⟩⟩
end Go.Proofs.Nw.X
end
