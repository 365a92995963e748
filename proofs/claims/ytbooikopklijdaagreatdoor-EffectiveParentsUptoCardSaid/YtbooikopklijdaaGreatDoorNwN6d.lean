/- Bundle: NwX6D0, NwX6D. -/
import Derived.Test.YtbooikopklijdaaGreatDoorNwN13
import Derived.Test.YtbooikopklijdaaGreatDoorNwN6c1
import Derived.Test.YtbooikopklijdaaGreatDoorNwN6c2
import Derived.Test.YtbooikopklijdaaGreatDoorNwN6c3
import Derived.Test.YtbooikopklijdaaGreatDoorNwN6c4
import Derived.Test.YtbooikopklijdaaGreatDoorNwN6c5
import Derived.Test.YtbooikopklijdaaGreatDoorNwN6c6
import Derived.Test.YtbooikopklijdaaGreatDoorNwN6c7
import Derived.Test.YtbooikopklijdaaGreatDoorNwN6c8
import Derived.Test.YtbooikopklijdaaGreatDoorNwN6c9
import Derived.Test.YtbooikopklijdaaGreatDoorNwN6c10
import Derived.Test.YtbooikopklijdaaGreatDoorNwN6c11
import Derived.Test.YtbooikopklijdaaGreatDoorNwN6c12
import Derived.Test.YtbooikopklijdaaGreatDoorNwN6c13
import Derived.Test.YtbooikopklijdaaGreatDoorNwN6c14
import Derived.Test.YtbooikopklijdaaGreatDoorNwN6c15
import Derived.Test.YtbooikopklijdaaGreatDoorNwN6c16
import Derived.Test.YtbooikopklijdaaGreatDoorNwN6c17
import Derived.Test.YtbooikopklijdaaGreatDoorNwN6c18
import Derived.Test.YtbooikopklijdaaGreatDoorNwN6c19
import Derived.Test.YtbooikopklijdaaGreatDoorNwN6c20
set_option linter.constructorNameAsVariable false
set_option linter.unusedVariables false
set_option linter.unusedSimpArgs false
set_option linter.unusedSectionVars false
section
/- printed by xl.py: function 6 counts the rest by 100. -/
open Go Go.RowKit Go.Proofs
set_option linter.unusedVariables false
set_option maxRecDepth 100000
namespace Go.Proofs.Nw.X
open Go.Proofs.Nw.K
theorem conv_u (i : Int) (h : H) (n : Id) (k : KV) : evConv2 tbx mtab 3 22 (.i .i64 i) h n k = k (.i .u64 (.ofNat (uN i))) h n := by
  have e : evConv2 tbx mtab 3 22 (.i .i64 i) h n k = fI (wrapK .u64 i) fun r => k (.i .u64 r) h n := by kernel_rfl
  rw [e, fI_eq]
  cases i <;> rfl
theorem rem_u (a : Nat) (kk : KP) : evBin2 tbx .rem 22 (.i .u64 (.ofNat a)) (.i .u64 100) kk = kk (.i .u64 (.ofNat (a % 100))) := by
  have e : evBin2 tbx .rem 22 (.i .u64 (.ofNat a)) (.i .u64 100) kk = fI (Int.tmod (.ofNat a) (.ofNat 100)) fun r => kk (.i .u64 r) := by kernel_rfl
  rw [e, fI_eq]
  rfl
noncomputable def t6 (rm : H → Id → KV → R) (fu : Nat) (cf : CF) (a0 a1 a2 : V) (h : H) (n : Id) (k : KV) : R :=
 rm h n fun v2 h n =>
 evConv2 tbx mtab 22 3 v2 h n fun v3 h n =>
 evBin2 tbx .add 3 (.i .i64 1) v3 fun v4 =>
 cf 16 [v4] h n fun v5 h n =>
 evBuild tbx 57 [(0, (.s 1 118)), (1, v5)] fun v6 =>
 evBuildSl tbx 29 1 [(0, v6)] h n fun v7 h n =>
 evBuild tbx 51 [(0, (.s 1 103)), (1, (.s 1 98)), (2, (.s 4 612071037))] fun v8 =>
 evBuildSl tbx 30 1 [(0, v8)] h n fun v9 h n =>
 evBuild tbx 51 [(0, (.s 1 103)), (1, (.s 1 99)), (2, (.s 1 57))] fun v10 =>
 evBuildSl tbx 30 1 [(0, v10)] h n fun v11 h n =>
 evBuild tbx 32 [(1, (.s 1 103)), (2, (.s 2 30064)), (3, (.s 1 49)), (5, v7), (6, v9), (7, v11)] fun v12 =>
 evAlloc tbx 32 h n fun v13 h n =>
 evStore tbx 32 v13 v12 h n fun _ h n =>
 evBuild tbx 24 [(0, (.s 1 103)), (1, (.s 2 30064)), (2, (.s 1 49))] fun v14 =>
 evBuild tbx 51 [(0, (.s 1 103)), (1, (.s 1 98))] fun v15 =>
 evBuildSl tbx 30 1 [(0, v15)] h n fun v16 h n =>
 evBuild tbx 32 [(2, (.s 1 97)), (0, v14), (7, v16)] fun v17 =>
 evAlloc tbx 32 h n fun v18 h n =>
 evStore tbx 32 v18 v17 h n fun _ h n =>
 jp (fun (s19 : VT [1, 8, 9, 10]) h n =>
 pc s19 fun v21 s22 =>
 pc s22 fun v23 s24 =>
 pc s24 fun v25 s26 =>
 pc s26 fun v27 s28 =>
 jp (fun (s29 : VT [8, 9, 10]) h n =>
 pc s29 fun v31 s32 =>
 pc s32 fun v33 s34 =>
 pc s34 fun v35 s36 =>
 evLoad tbx 32 v33 h fun v37 =>
 cf 18 [v37] h n fun v38 h n =>
 evExt 0 v38 fun v39 =>
 evExt 1 v38 fun v40 =>
 evLoad tbx 32 v31 h fun v41 =>
 cf 18 [v41] h n fun v42 h n =>
 evExt 0 v42 fun v43 =>
 evExt 1 v42 fun v44 =>
 evBuild tbx 24 [(0, (.s 1 103)), (1, (.s 1 97)), (2, (.s 1 49))] fun v45 =>
 evAlloc tbx 24 h n fun v46 h n =>
 evStore tbx 24 v46 v45 h n fun _ h n =>
 evLoad tbx 24 v46 h fun v47 =>
 evBuild tbx 37 [(0, v47), (1, v39)] fun v48 =>
 evFa tbx 32 0 v33 fun v49 =>
 evLoad tbx 24 v49 h fun v50 =>
 evBuild tbx 37 [(0, v50), (1, v43)] fun v51 =>
 evBuildSl tbx 28 2 [(0, v48), (1, v51)] h n fun v52 h n =>
 cf 23 [v52] h n fun v53 h n =>
 evExt 0 v53 fun v54 =>
 evExt 1 v53 fun v55 =>
 evLoad tbx 24 v46 h fun v56 =>
 cf 24 [v54, v56] h n fun v57 h n =>
 evExt 0 v57 fun v58 =>
 evExt 1 v57 fun v59 =>
 evAlloc tbx 32 h n fun v60 h n =>
 evStore tbx 32 v60 v58 h n fun _ h n =>
 cf 25 [] h n fun v61 h n =>
 jp (fun (v62 : V) h n =>
 jp (fun (v64 : V) h n =>
 evPick v61 v64 (.b false) fun v66 =>
 jp (fun (v67 : V) h n =>
 jp (fun (v69 : V) h n =>
 jp (fun (v71 : V) h n =>
 jp (fun (v73 : V) h n =>
 evPick v66 v73 (.b false) fun v75 =>
 jp (fun (v76 : V) h n =>
 jp (fun (v78 : V) h n =>
 jp (fun (v80 : V) h n =>
 jp (fun (v82 : V) h n =>
 jp (fun (v84 : V) h n =>
 jp (fun (v86 : V) h n =>
 jp (fun (v88 : V) h n =>
 evPick v75 v88 (.b false) fun v90 =>
 jp (fun (v91 : V) h n =>
 jp (fun (v93 : V) h n =>
 jp (fun (v95 : V) h n =>
 jp (fun (v97 : V) h n =>
 jp (fun (v99 : V) h n =>
 jp (fun (v101 : V) h n =>
 evPick v90 v101 (.b false) fun v103 =>
 jp (fun (v104 : V) h n =>
 jp (fun (v106 : V) h n =>
 jp (fun (v108 : V) h n =>
 evPick v103 v108 (.b false) fun v110 =>
 jp (fun (v111 : V) h n =>
 jp (fun (v113 : V) h n =>
 jp (fun (v115 : V) h n =>
 evPick v110 v115 (.b false) fun v117 =>
 jp (fun (v118 : V) h n =>
 jp (fun (v120 : V) h n =>
 jp (fun (v122 : V) h n =>
 jp (fun (v124 : V) h n =>
 jp (fun (v126 : V) h n =>
 jp (fun (v128 : V) h n =>
 evPick v117 v128 (.b false) fun v130 =>
 k v130 h n) fun kk129 =>
 gdB v117 true ((evBin2 tbx .eql 9 v126 (.s 7 27988538522430565) fun v => kk129 v h n)) (kk129 (.tp []) h n)) fun kk127 =>
 gdB v117 true ((evLoad tbx 9 v124 h fun v => kk127 v h n)) (kk127 (.tp []) h n)) fun kk125 =>
 gdB v117 true ((evFa tbx 51 5 v122 fun v => kk125 v h n)) (kk125 (.tp []) h n)) fun kk123 =>
 gdB v117 true ((evIa tbx 30 v120 (.i .i64 0) fun v => kk123 v h n)) (kk123 (.tp []) h n)) fun kk121 =>
 gdB v117 true ((evLoad tbx 30 v118 h fun v => kk121 v h n)) (kk121 (.tp []) h n)) fun kk119 =>
 gdB v117 true ((evFa tbx 32 7 v60 fun v => kk119 v h n)) (kk119 (.tp []) h n)) fun kk116 =>
 gdB v110 true ((evBin2 tbx .eql 9 v113 (.s 1 49) fun v => kk116 v h n)) (kk116 (.tp []) h n)) fun kk114 =>
 gdB v110 true ((evLoad tbx 9 v111 h fun v => kk114 v h n)) (kk114 (.tp []) h n)) fun kk112 =>
 gdB v110 true ((evFa tbx 32 3 v60 fun v => kk112 v h n)) (kk112 (.tp []) h n)) fun kk109 =>
 gdB v103 true ((evBin2 tbx .eql 9 v106 (.s 1 103) fun v => kk109 v h n)) (kk109 (.tp []) h n)) fun kk107 =>
 gdB v103 true ((evLoad tbx 9 v104 h fun v => kk107 v h n)) (kk107 (.tp []) h n)) fun kk105 =>
 gdB v103 true ((evFa tbx 32 1 v60 fun v => kk105 v h n)) (kk105 (.tp []) h n)) fun kk102 =>
 gdB v90 true ((evBin2 tbx .eql 9 v99 (.s 1 99) fun v => kk102 v h n)) (kk102 (.tp []) h n)) fun kk100 =>
 gdB v90 true ((evLoad tbx 9 v97 h fun v => kk100 v h n)) (kk100 (.tp []) h n)) fun kk98 =>
 gdB v90 true ((evFa tbx 51 1 v95 fun v => kk98 v h n)) (kk98 (.tp []) h n)) fun kk96 =>
 gdB v90 true ((evIa tbx 30 v93 (.i .i64 1) fun v => kk96 v h n)) (kk96 (.tp []) h n)) fun kk94 =>
 gdB v90 true ((evLoad tbx 30 v91 h fun v => kk94 v h n)) (kk94 (.tp []) h n)) fun kk92 =>
 gdB v90 true ((evFa tbx 32 7 v60 fun v => kk92 v h n)) (kk92 (.tp []) h n)) fun kk89 =>
 gdB v75 true ((evBin2 tbx .eql 9 v84 v86 fun v => kk89 v h n)) (kk89 (.tp []) h n)) fun kk87 =>
 gdB v75 true (kk87 v35 h n) (kk87 (.tp []) h n)) fun kk85 =>
 gdB v75 true ((evLoad tbx 9 v82 h fun v => kk85 v h n)) (kk85 (.tp []) h n)) fun kk83 =>
 gdB v75 true ((evFa tbx 51 2 v80 fun v => kk83 v h n)) (kk83 (.tp []) h n)) fun kk81 =>
 gdB v75 true ((evIa tbx 30 v78 (.i .i64 0) fun v => kk81 v h n)) (kk81 (.tp []) h n)) fun kk79 =>
 gdB v75 true ((evLoad tbx 30 v76 h fun v => kk79 v h n)) (kk79 (.tp []) h n)) fun kk77 =>
 gdB v75 true ((evFa tbx 32 7 v60 fun v => kk77 v h n)) (kk77 (.tp []) h n)) fun kk74 =>
 gdB v66 true ((evBin2 tbx .eql 3 v71 (.i .i64 2) fun v => kk74 v h n)) (kk74 (.tp []) h n)) fun kk72 =>
 gdB v66 true ((evLen tbx 30 v69 fun v => kk72 v h n)) (kk72 (.tp []) h n)) fun kk70 =>
 gdB v66 true ((evLoad tbx 30 v67 h fun v => kk70 v h n)) (kk70 (.tp []) h n)) fun kk68 =>
 gdB v66 true ((evFa tbx 32 7 v60 fun v => kk68 v h n)) (kk68 (.tp []) h n)) fun kk65 =>
 gdB v61 true ((evBin2 tbx .eql 33 v62 (.i .i64 0) fun v => kk65 v h n)) (kk65 (.tp []) h n)) fun kk63 =>
 gdB v61 true (kk63 v59 h n) (kk63 (.tp []) h n)) fun kk30 =>
 brB v21 (
 evFa tbx 32 7 v25 fun v131 =>
 evLoad tbx 30 v131 h fun v132 =>
 evIa tbx 30 v132 (.i .i64 0) fun v133 =>
 evFa tbx 51 2 v133 fun v134 =>
 evStore tbx 9 v134 (.s 1 56) h n fun _ h n =>
 kk30 (v23, v25, (.s 1 56), ()) h n) (
 kk30 (v23, v25, v27, ()) h n)) fun kk20 =>
 brB a0 (
 evBuild tbx 57 [(0, (.s 1 118)), (1, (.s 3 7305070))] fun v135 =>
 evBuildSl tbx 29 1 [(0, v135)] h n fun v136 h n =>
 evFa tbx 32 5 v18 fun v137 =>
 evStore tbx 29 v137 v136 h n fun _ h n =>
 kk20 (a1, v13, v18, (.s 3 7305070), ()) h n) (
 kk20 (a1, v13, v18, v5, ()) h n)
noncomputable def rm6 (i : Int) : H → Id → KV → R := fun h n k => evConv2 tbx mtab 3 22 (.i .i64 i) h n fun v h n => evBin2 tbx .rem 22 v (.i .u64 100) fun v => k v h n
theorem rm6_eq (i : Int) : rm6 i = rm6 (.ofNat (uN i % 100)) := by
  funext h n k
  unfold rm6
  rw [conv_u, conv_u, rem_u, rem_u, uN_nat (Nat.lt_trans (Nat.mod_lt _ (by omega)) (by omega : 100 < 18446744073709551616)), Nat.mod_mod]
theorem s6_t (fu : Nat) (cf : CF) (a0 : V) (a1 : V) (i : Int) (h : H) (n : Id) (k : KV) : s6 fu cf a0 a1 (.i .i64 i) h n k = t6 (rm6 i) fu cf a0 a1 (.i .i64 i) h n k := by kernel_rfl
theorem t6_n (rm : H → Id → KV → R) (fu : Nat) (cf : CF) (a0 : V) (a1 : V) (x y : V) (h : H) (n : Id) (k : KV) : t6 rm fu cf a0 a1 x h n k = t6 rm fu cf a0 a1 y h n k := by kernel_rfl
theorem s6_r (fu : Nat) (cf : CF) (a0 : V) (a1 : V) (i : Int) (h : H) (n : Id) (k : KV) : s6 fu cf a0 a1 (.i .i64 i) h n k = s6 fu cf a0 a1 (vN (uN i % 100)) h n k := by
  rw [s6_t, rm6_eq, s6_t]
  exact t6_n _ _ _ a0 a1 _ _ _ _ _
theorem wv3 (s : CF → V → V → V → H → Id → KV → R) (cf : CF) (a0 a1 a2 : V) (h : H) (n : Id) (k : KV) : w3 s cf [a0, a1, a2] h n k = s cf a0 a1 a2 h n k := rfl
theorem s6_c (cf : CF) (b0 : Bool) (b1 : Bool) (i : Int) : w3 (s6 fuX) cf [(.b b0), (.b b1), (.i .i64 i)] .e n0 kEnd = w3 (s6 fuX) cf [.b b0, .b b1, vN (uN i % 100)] .e n0 kEnd :=
  (wv3 (s6 fuX) cf _ _ _ .e n0 kEnd).trans ((s6_r fuX cf (.b b0) (.b b1) i .e n0 kEnd).trans (wv3 (s6 fuX) cf _ _ _ .e n0 kEnd).symm)
end Go.Proofs.Nw.X
end
section
/- printed by xl.py: function 6 returns true. -/
open Go Go.RowKit Go.Proofs
set_option maxRecDepth 100000
namespace Go.Proofs.Nw.X
open Go.Proofs.Nw.K
theorem fa0 {P : Nat → Prop} : ∀ r, r < 0 → P r := fun r h => absurd h (Nat.not_lt_zero r)
theorem faS {P : Nat → Prop} {n : Nat} (h : ∀ r, r < n → P r) (hn : P n) : ∀ r, r < n + 1 → P r := fun r hr => (Nat.lt_or_eq_of_le (Nat.le_of_lt_succ hr)).elim (h r) (fun e => e ▸ hn)
theorem all6_tt_0 : ∀ r, r < 0 → (fun r => cfY 200 6 [.b true, .b true, vN r] .e n0 kEnd = some (.b true)) r := fa0
theorem all6_tt_20 : ∀ r, r < 20 → (fun r => cfY 200 6 [.b true, .b true, vN r] .e n0 kEnd = some (.b true)) r := faS (n := 19) (faS (n := 18) (faS (n := 17) (faS (n := 16) (faS (n := 15) (faS (n := 14) (faS (n := 13) (faS (n := 12) (faS (n := 11) (faS (n := 10) (faS (n := 9) (faS (n := 8) (faS (n := 7) (faS (n := 6) (faS (n := 5) (faS (n := 4) (faS (n := 3) (faS (n := 2) (faS (n := 1) (faS (P := (fun r => cfY 200 6 [.b true, .b true, vN r] .e n0 kEnd = some (.b true)) ) (n := 0) (all6_tt_0) c6_0_t_t) c6_1_t_t) c6_2_t_t) c6_3_t_t) c6_4_t_t) c6_5_t_t) c6_6_t_t) c6_7_t_t) c6_8_t_t) c6_9_t_t) c6_10_t_t) c6_11_t_t) c6_12_t_t) c6_13_t_t) c6_14_t_t) c6_15_t_t) c6_16_t_t) c6_17_t_t) c6_18_t_t) c6_19_t_t
theorem all6_tt_40 : ∀ r, r < 40 → (fun r => cfY 200 6 [.b true, .b true, vN r] .e n0 kEnd = some (.b true)) r := faS (n := 39) (faS (n := 38) (faS (n := 37) (faS (n := 36) (faS (n := 35) (faS (n := 34) (faS (n := 33) (faS (n := 32) (faS (n := 31) (faS (n := 30) (faS (n := 29) (faS (n := 28) (faS (n := 27) (faS (n := 26) (faS (n := 25) (faS (n := 24) (faS (n := 23) (faS (n := 22) (faS (n := 21) (faS (P := (fun r => cfY 200 6 [.b true, .b true, vN r] .e n0 kEnd = some (.b true)) ) (n := 20) (all6_tt_20) c6_20_t_t) c6_21_t_t) c6_22_t_t) c6_23_t_t) c6_24_t_t) c6_25_t_t) c6_26_t_t) c6_27_t_t) c6_28_t_t) c6_29_t_t) c6_30_t_t) c6_31_t_t) c6_32_t_t) c6_33_t_t) c6_34_t_t) c6_35_t_t) c6_36_t_t) c6_37_t_t) c6_38_t_t) c6_39_t_t
theorem all6_tt_60 : ∀ r, r < 60 → (fun r => cfY 200 6 [.b true, .b true, vN r] .e n0 kEnd = some (.b true)) r := faS (n := 59) (faS (n := 58) (faS (n := 57) (faS (n := 56) (faS (n := 55) (faS (n := 54) (faS (n := 53) (faS (n := 52) (faS (n := 51) (faS (n := 50) (faS (n := 49) (faS (n := 48) (faS (n := 47) (faS (n := 46) (faS (n := 45) (faS (n := 44) (faS (n := 43) (faS (n := 42) (faS (n := 41) (faS (P := (fun r => cfY 200 6 [.b true, .b true, vN r] .e n0 kEnd = some (.b true)) ) (n := 40) (all6_tt_40) c6_40_t_t) c6_41_t_t) c6_42_t_t) c6_43_t_t) c6_44_t_t) c6_45_t_t) c6_46_t_t) c6_47_t_t) c6_48_t_t) c6_49_t_t) c6_50_t_t) c6_51_t_t) c6_52_t_t) c6_53_t_t) c6_54_t_t) c6_55_t_t) c6_56_t_t) c6_57_t_t) c6_58_t_t) c6_59_t_t
theorem all6_tt_80 : ∀ r, r < 80 → (fun r => cfY 200 6 [.b true, .b true, vN r] .e n0 kEnd = some (.b true)) r := faS (n := 79) (faS (n := 78) (faS (n := 77) (faS (n := 76) (faS (n := 75) (faS (n := 74) (faS (n := 73) (faS (n := 72) (faS (n := 71) (faS (n := 70) (faS (n := 69) (faS (n := 68) (faS (n := 67) (faS (n := 66) (faS (n := 65) (faS (n := 64) (faS (n := 63) (faS (n := 62) (faS (n := 61) (faS (P := (fun r => cfY 200 6 [.b true, .b true, vN r] .e n0 kEnd = some (.b true)) ) (n := 60) (all6_tt_60) c6_60_t_t) c6_61_t_t) c6_62_t_t) c6_63_t_t) c6_64_t_t) c6_65_t_t) c6_66_t_t) c6_67_t_t) c6_68_t_t) c6_69_t_t) c6_70_t_t) c6_71_t_t) c6_72_t_t) c6_73_t_t) c6_74_t_t) c6_75_t_t) c6_76_t_t) c6_77_t_t) c6_78_t_t) c6_79_t_t
theorem all6_tt_100 : ∀ r, r < 100 → (fun r => cfY 200 6 [.b true, .b true, vN r] .e n0 kEnd = some (.b true)) r := faS (n := 99) (faS (n := 98) (faS (n := 97) (faS (n := 96) (faS (n := 95) (faS (n := 94) (faS (n := 93) (faS (n := 92) (faS (n := 91) (faS (n := 90) (faS (n := 89) (faS (n := 88) (faS (n := 87) (faS (n := 86) (faS (n := 85) (faS (n := 84) (faS (n := 83) (faS (n := 82) (faS (n := 81) (faS (P := (fun r => cfY 200 6 [.b true, .b true, vN r] .e n0 kEnd = some (.b true)) ) (n := 80) (all6_tt_80) c6_80_t_t) c6_81_t_t) c6_82_t_t) c6_83_t_t) c6_84_t_t) c6_85_t_t) c6_86_t_t) c6_87_t_t) c6_88_t_t) c6_89_t_t) c6_90_t_t) c6_91_t_t) c6_92_t_t) c6_93_t_t) c6_94_t_t) c6_95_t_t) c6_96_t_t) c6_97_t_t) c6_98_t_t) c6_99_t_t
theorem all6_tf_0 : ∀ r, r < 0 → (fun r => cfY 200 6 [.b true, .b false, vN r] .e n0 kEnd = some (.b true)) r := fa0
theorem all6_tf_20 : ∀ r, r < 20 → (fun r => cfY 200 6 [.b true, .b false, vN r] .e n0 kEnd = some (.b true)) r := faS (n := 19) (faS (n := 18) (faS (n := 17) (faS (n := 16) (faS (n := 15) (faS (n := 14) (faS (n := 13) (faS (n := 12) (faS (n := 11) (faS (n := 10) (faS (n := 9) (faS (n := 8) (faS (n := 7) (faS (n := 6) (faS (n := 5) (faS (n := 4) (faS (n := 3) (faS (n := 2) (faS (n := 1) (faS (P := (fun r => cfY 200 6 [.b true, .b false, vN r] .e n0 kEnd = some (.b true)) ) (n := 0) (all6_tf_0) c6_0_t_f) c6_1_t_f) c6_2_t_f) c6_3_t_f) c6_4_t_f) c6_5_t_f) c6_6_t_f) c6_7_t_f) c6_8_t_f) c6_9_t_f) c6_10_t_f) c6_11_t_f) c6_12_t_f) c6_13_t_f) c6_14_t_f) c6_15_t_f) c6_16_t_f) c6_17_t_f) c6_18_t_f) c6_19_t_f
theorem all6_tf_40 : ∀ r, r < 40 → (fun r => cfY 200 6 [.b true, .b false, vN r] .e n0 kEnd = some (.b true)) r := faS (n := 39) (faS (n := 38) (faS (n := 37) (faS (n := 36) (faS (n := 35) (faS (n := 34) (faS (n := 33) (faS (n := 32) (faS (n := 31) (faS (n := 30) (faS (n := 29) (faS (n := 28) (faS (n := 27) (faS (n := 26) (faS (n := 25) (faS (n := 24) (faS (n := 23) (faS (n := 22) (faS (n := 21) (faS (P := (fun r => cfY 200 6 [.b true, .b false, vN r] .e n0 kEnd = some (.b true)) ) (n := 20) (all6_tf_20) c6_20_t_f) c6_21_t_f) c6_22_t_f) c6_23_t_f) c6_24_t_f) c6_25_t_f) c6_26_t_f) c6_27_t_f) c6_28_t_f) c6_29_t_f) c6_30_t_f) c6_31_t_f) c6_32_t_f) c6_33_t_f) c6_34_t_f) c6_35_t_f) c6_36_t_f) c6_37_t_f) c6_38_t_f) c6_39_t_f
theorem all6_tf_60 : ∀ r, r < 60 → (fun r => cfY 200 6 [.b true, .b false, vN r] .e n0 kEnd = some (.b true)) r := faS (n := 59) (faS (n := 58) (faS (n := 57) (faS (n := 56) (faS (n := 55) (faS (n := 54) (faS (n := 53) (faS (n := 52) (faS (n := 51) (faS (n := 50) (faS (n := 49) (faS (n := 48) (faS (n := 47) (faS (n := 46) (faS (n := 45) (faS (n := 44) (faS (n := 43) (faS (n := 42) (faS (n := 41) (faS (P := (fun r => cfY 200 6 [.b true, .b false, vN r] .e n0 kEnd = some (.b true)) ) (n := 40) (all6_tf_40) c6_40_t_f) c6_41_t_f) c6_42_t_f) c6_43_t_f) c6_44_t_f) c6_45_t_f) c6_46_t_f) c6_47_t_f) c6_48_t_f) c6_49_t_f) c6_50_t_f) c6_51_t_f) c6_52_t_f) c6_53_t_f) c6_54_t_f) c6_55_t_f) c6_56_t_f) c6_57_t_f) c6_58_t_f) c6_59_t_f
theorem all6_tf_80 : ∀ r, r < 80 → (fun r => cfY 200 6 [.b true, .b false, vN r] .e n0 kEnd = some (.b true)) r := faS (n := 79) (faS (n := 78) (faS (n := 77) (faS (n := 76) (faS (n := 75) (faS (n := 74) (faS (n := 73) (faS (n := 72) (faS (n := 71) (faS (n := 70) (faS (n := 69) (faS (n := 68) (faS (n := 67) (faS (n := 66) (faS (n := 65) (faS (n := 64) (faS (n := 63) (faS (n := 62) (faS (n := 61) (faS (P := (fun r => cfY 200 6 [.b true, .b false, vN r] .e n0 kEnd = some (.b true)) ) (n := 60) (all6_tf_60) c6_60_t_f) c6_61_t_f) c6_62_t_f) c6_63_t_f) c6_64_t_f) c6_65_t_f) c6_66_t_f) c6_67_t_f) c6_68_t_f) c6_69_t_f) c6_70_t_f) c6_71_t_f) c6_72_t_f) c6_73_t_f) c6_74_t_f) c6_75_t_f) c6_76_t_f) c6_77_t_f) c6_78_t_f) c6_79_t_f
theorem all6_tf_100 : ∀ r, r < 100 → (fun r => cfY 200 6 [.b true, .b false, vN r] .e n0 kEnd = some (.b true)) r := faS (n := 99) (faS (n := 98) (faS (n := 97) (faS (n := 96) (faS (n := 95) (faS (n := 94) (faS (n := 93) (faS (n := 92) (faS (n := 91) (faS (n := 90) (faS (n := 89) (faS (n := 88) (faS (n := 87) (faS (n := 86) (faS (n := 85) (faS (n := 84) (faS (n := 83) (faS (n := 82) (faS (n := 81) (faS (P := (fun r => cfY 200 6 [.b true, .b false, vN r] .e n0 kEnd = some (.b true)) ) (n := 80) (all6_tf_80) c6_80_t_f) c6_81_t_f) c6_82_t_f) c6_83_t_f) c6_84_t_f) c6_85_t_f) c6_86_t_f) c6_87_t_f) c6_88_t_f) c6_89_t_f) c6_90_t_f) c6_91_t_f) c6_92_t_f) c6_93_t_f) c6_94_t_f) c6_95_t_f) c6_96_t_f) c6_97_t_f) c6_98_t_f) c6_99_t_f
theorem all6_ft_0 : ∀ r, r < 0 → (fun r => cfY 200 6 [.b false, .b true, vN r] .e n0 kEnd = some (.b true)) r := fa0
theorem all6_ft_20 : ∀ r, r < 20 → (fun r => cfY 200 6 [.b false, .b true, vN r] .e n0 kEnd = some (.b true)) r := faS (n := 19) (faS (n := 18) (faS (n := 17) (faS (n := 16) (faS (n := 15) (faS (n := 14) (faS (n := 13) (faS (n := 12) (faS (n := 11) (faS (n := 10) (faS (n := 9) (faS (n := 8) (faS (n := 7) (faS (n := 6) (faS (n := 5) (faS (n := 4) (faS (n := 3) (faS (n := 2) (faS (n := 1) (faS (P := (fun r => cfY 200 6 [.b false, .b true, vN r] .e n0 kEnd = some (.b true)) ) (n := 0) (all6_ft_0) c6_0_f_t) c6_1_f_t) c6_2_f_t) c6_3_f_t) c6_4_f_t) c6_5_f_t) c6_6_f_t) c6_7_f_t) c6_8_f_t) c6_9_f_t) c6_10_f_t) c6_11_f_t) c6_12_f_t) c6_13_f_t) c6_14_f_t) c6_15_f_t) c6_16_f_t) c6_17_f_t) c6_18_f_t) c6_19_f_t
theorem all6_ft_40 : ∀ r, r < 40 → (fun r => cfY 200 6 [.b false, .b true, vN r] .e n0 kEnd = some (.b true)) r := faS (n := 39) (faS (n := 38) (faS (n := 37) (faS (n := 36) (faS (n := 35) (faS (n := 34) (faS (n := 33) (faS (n := 32) (faS (n := 31) (faS (n := 30) (faS (n := 29) (faS (n := 28) (faS (n := 27) (faS (n := 26) (faS (n := 25) (faS (n := 24) (faS (n := 23) (faS (n := 22) (faS (n := 21) (faS (P := (fun r => cfY 200 6 [.b false, .b true, vN r] .e n0 kEnd = some (.b true)) ) (n := 20) (all6_ft_20) c6_20_f_t) c6_21_f_t) c6_22_f_t) c6_23_f_t) c6_24_f_t) c6_25_f_t) c6_26_f_t) c6_27_f_t) c6_28_f_t) c6_29_f_t) c6_30_f_t) c6_31_f_t) c6_32_f_t) c6_33_f_t) c6_34_f_t) c6_35_f_t) c6_36_f_t) c6_37_f_t) c6_38_f_t) c6_39_f_t
theorem all6_ft_60 : ∀ r, r < 60 → (fun r => cfY 200 6 [.b false, .b true, vN r] .e n0 kEnd = some (.b true)) r := faS (n := 59) (faS (n := 58) (faS (n := 57) (faS (n := 56) (faS (n := 55) (faS (n := 54) (faS (n := 53) (faS (n := 52) (faS (n := 51) (faS (n := 50) (faS (n := 49) (faS (n := 48) (faS (n := 47) (faS (n := 46) (faS (n := 45) (faS (n := 44) (faS (n := 43) (faS (n := 42) (faS (n := 41) (faS (P := (fun r => cfY 200 6 [.b false, .b true, vN r] .e n0 kEnd = some (.b true)) ) (n := 40) (all6_ft_40) c6_40_f_t) c6_41_f_t) c6_42_f_t) c6_43_f_t) c6_44_f_t) c6_45_f_t) c6_46_f_t) c6_47_f_t) c6_48_f_t) c6_49_f_t) c6_50_f_t) c6_51_f_t) c6_52_f_t) c6_53_f_t) c6_54_f_t) c6_55_f_t) c6_56_f_t) c6_57_f_t) c6_58_f_t) c6_59_f_t
theorem all6_ft_80 : ∀ r, r < 80 → (fun r => cfY 200 6 [.b false, .b true, vN r] .e n0 kEnd = some (.b true)) r := faS (n := 79) (faS (n := 78) (faS (n := 77) (faS (n := 76) (faS (n := 75) (faS (n := 74) (faS (n := 73) (faS (n := 72) (faS (n := 71) (faS (n := 70) (faS (n := 69) (faS (n := 68) (faS (n := 67) (faS (n := 66) (faS (n := 65) (faS (n := 64) (faS (n := 63) (faS (n := 62) (faS (n := 61) (faS (P := (fun r => cfY 200 6 [.b false, .b true, vN r] .e n0 kEnd = some (.b true)) ) (n := 60) (all6_ft_60) c6_60_f_t) c6_61_f_t) c6_62_f_t) c6_63_f_t) c6_64_f_t) c6_65_f_t) c6_66_f_t) c6_67_f_t) c6_68_f_t) c6_69_f_t) c6_70_f_t) c6_71_f_t) c6_72_f_t) c6_73_f_t) c6_74_f_t) c6_75_f_t) c6_76_f_t) c6_77_f_t) c6_78_f_t) c6_79_f_t
theorem all6_ft_100 : ∀ r, r < 100 → (fun r => cfY 200 6 [.b false, .b true, vN r] .e n0 kEnd = some (.b true)) r := faS (n := 99) (faS (n := 98) (faS (n := 97) (faS (n := 96) (faS (n := 95) (faS (n := 94) (faS (n := 93) (faS (n := 92) (faS (n := 91) (faS (n := 90) (faS (n := 89) (faS (n := 88) (faS (n := 87) (faS (n := 86) (faS (n := 85) (faS (n := 84) (faS (n := 83) (faS (n := 82) (faS (n := 81) (faS (P := (fun r => cfY 200 6 [.b false, .b true, vN r] .e n0 kEnd = some (.b true)) ) (n := 80) (all6_ft_80) c6_80_f_t) c6_81_f_t) c6_82_f_t) c6_83_f_t) c6_84_f_t) c6_85_f_t) c6_86_f_t) c6_87_f_t) c6_88_f_t) c6_89_f_t) c6_90_f_t) c6_91_f_t) c6_92_f_t) c6_93_f_t) c6_94_f_t) c6_95_f_t) c6_96_f_t) c6_97_f_t) c6_98_f_t) c6_99_f_t
theorem all6_ff_0 : ∀ r, r < 0 → (fun r => cfY 200 6 [.b false, .b false, vN r] .e n0 kEnd = some (.b true)) r := fa0
theorem all6_ff_20 : ∀ r, r < 20 → (fun r => cfY 200 6 [.b false, .b false, vN r] .e n0 kEnd = some (.b true)) r := faS (n := 19) (faS (n := 18) (faS (n := 17) (faS (n := 16) (faS (n := 15) (faS (n := 14) (faS (n := 13) (faS (n := 12) (faS (n := 11) (faS (n := 10) (faS (n := 9) (faS (n := 8) (faS (n := 7) (faS (n := 6) (faS (n := 5) (faS (n := 4) (faS (n := 3) (faS (n := 2) (faS (n := 1) (faS (P := (fun r => cfY 200 6 [.b false, .b false, vN r] .e n0 kEnd = some (.b true)) ) (n := 0) (all6_ff_0) c6_0_f_f) c6_1_f_f) c6_2_f_f) c6_3_f_f) c6_4_f_f) c6_5_f_f) c6_6_f_f) c6_7_f_f) c6_8_f_f) c6_9_f_f) c6_10_f_f) c6_11_f_f) c6_12_f_f) c6_13_f_f) c6_14_f_f) c6_15_f_f) c6_16_f_f) c6_17_f_f) c6_18_f_f) c6_19_f_f
theorem all6_ff_40 : ∀ r, r < 40 → (fun r => cfY 200 6 [.b false, .b false, vN r] .e n0 kEnd = some (.b true)) r := faS (n := 39) (faS (n := 38) (faS (n := 37) (faS (n := 36) (faS (n := 35) (faS (n := 34) (faS (n := 33) (faS (n := 32) (faS (n := 31) (faS (n := 30) (faS (n := 29) (faS (n := 28) (faS (n := 27) (faS (n := 26) (faS (n := 25) (faS (n := 24) (faS (n := 23) (faS (n := 22) (faS (n := 21) (faS (P := (fun r => cfY 200 6 [.b false, .b false, vN r] .e n0 kEnd = some (.b true)) ) (n := 20) (all6_ff_20) c6_20_f_f) c6_21_f_f) c6_22_f_f) c6_23_f_f) c6_24_f_f) c6_25_f_f) c6_26_f_f) c6_27_f_f) c6_28_f_f) c6_29_f_f) c6_30_f_f) c6_31_f_f) c6_32_f_f) c6_33_f_f) c6_34_f_f) c6_35_f_f) c6_36_f_f) c6_37_f_f) c6_38_f_f) c6_39_f_f
theorem all6_ff_60 : ∀ r, r < 60 → (fun r => cfY 200 6 [.b false, .b false, vN r] .e n0 kEnd = some (.b true)) r := faS (n := 59) (faS (n := 58) (faS (n := 57) (faS (n := 56) (faS (n := 55) (faS (n := 54) (faS (n := 53) (faS (n := 52) (faS (n := 51) (faS (n := 50) (faS (n := 49) (faS (n := 48) (faS (n := 47) (faS (n := 46) (faS (n := 45) (faS (n := 44) (faS (n := 43) (faS (n := 42) (faS (n := 41) (faS (P := (fun r => cfY 200 6 [.b false, .b false, vN r] .e n0 kEnd = some (.b true)) ) (n := 40) (all6_ff_40) c6_40_f_f) c6_41_f_f) c6_42_f_f) c6_43_f_f) c6_44_f_f) c6_45_f_f) c6_46_f_f) c6_47_f_f) c6_48_f_f) c6_49_f_f) c6_50_f_f) c6_51_f_f) c6_52_f_f) c6_53_f_f) c6_54_f_f) c6_55_f_f) c6_56_f_f) c6_57_f_f) c6_58_f_f) c6_59_f_f
theorem all6_ff_80 : ∀ r, r < 80 → (fun r => cfY 200 6 [.b false, .b false, vN r] .e n0 kEnd = some (.b true)) r := faS (n := 79) (faS (n := 78) (faS (n := 77) (faS (n := 76) (faS (n := 75) (faS (n := 74) (faS (n := 73) (faS (n := 72) (faS (n := 71) (faS (n := 70) (faS (n := 69) (faS (n := 68) (faS (n := 67) (faS (n := 66) (faS (n := 65) (faS (n := 64) (faS (n := 63) (faS (n := 62) (faS (n := 61) (faS (P := (fun r => cfY 200 6 [.b false, .b false, vN r] .e n0 kEnd = some (.b true)) ) (n := 60) (all6_ff_60) c6_60_f_f) c6_61_f_f) c6_62_f_f) c6_63_f_f) c6_64_f_f) c6_65_f_f) c6_66_f_f) c6_67_f_f) c6_68_f_f) c6_69_f_f) c6_70_f_f) c6_71_f_f) c6_72_f_f) c6_73_f_f) c6_74_f_f) c6_75_f_f) c6_76_f_f) c6_77_f_f) c6_78_f_f) c6_79_f_f
theorem all6_ff_100 : ∀ r, r < 100 → (fun r => cfY 200 6 [.b false, .b false, vN r] .e n0 kEnd = some (.b true)) r := faS (n := 99) (faS (n := 98) (faS (n := 97) (faS (n := 96) (faS (n := 95) (faS (n := 94) (faS (n := 93) (faS (n := 92) (faS (n := 91) (faS (n := 90) (faS (n := 89) (faS (n := 88) (faS (n := 87) (faS (n := 86) (faS (n := 85) (faS (n := 84) (faS (n := 83) (faS (n := 82) (faS (n := 81) (faS (P := (fun r => cfY 200 6 [.b false, .b false, vN r] .e n0 kEnd = some (.b true)) ) (n := 80) (all6_ff_80) c6_80_f_f) c6_81_f_f) c6_82_f_f) c6_83_f_f) c6_84_f_f) c6_85_f_f) c6_86_f_f) c6_87_f_f) c6_88_f_f) c6_89_f_f) c6_90_f_f) c6_91_f_f) c6_92_f_f) c6_93_f_f) c6_94_f_f) c6_95_f_f) c6_96_f_f) c6_97_f_f) c6_98_f_f) c6_99_f_f
theorem all6 (b0 : Bool) (b1 : Bool) (r : Nat) (hr : r < 100) : cfY 200 6 [.b b0, .b b1, vN r] .e n0 kEnd = some (.b true) := by
  match b0, b1 with
  | true, true => exact all6_tt_100 r hr
  | true, false => exact all6_tf_100 r hr
  | false, true => exact all6_ft_100 r hr
  | false, false => exact all6_ff_100 r hr
theorem run6 (b0 : Bool) (b1 : Bool) (i : Int) {W : World} (hG : Gi W) : Calls Tryz.prog 6 #[.bool b0, .bool b1, .int .i64 i] W fun e W' => e = .returned (.bool true) ∧ Below W.heap.size W W' := by
  have e : ∀ vs h n k, cfY 200 6 vs h n k = w3 (s6 fuX) (cfY 199) vs h n k := fun vs h n k => by kernel_rfl
  refine law_run (us := [.bool b0, .bool b1, .int .i64 i]) (vs := [(.b b0), (.b b1), (.i .i64 i)]) (by kernel_rfl) (cfY_ok 200 6) ?_ hG ?_
  · rw [e, s6_c, ← e]; exact all6 b0 b1 _ (Nat.mod_lt _ (by omega))
  · exact ⟨_, _, rfl, rfl, ⟨_, _, rfl, rfl, ⟨_, _, rfl, rfl, rfl⟩⟩⟩
end Go.Proofs.Nw.X
end
