/- Bundle: NwX10D0, NwX10D. -/
import Derived.Test.YtbooikopklijdaaGreatDoorNwJ14
import Derived.Test.YtbooikopklijdaaGreatDoorNwJ10c1
import Derived.Test.YtbooikopklijdaaGreatDoorNwJ10c2
import Derived.Test.YtbooikopklijdaaGreatDoorNwJ10c3
import Derived.Test.YtbooikopklijdaaGreatDoorNwJ10c4
import Derived.Test.YtbooikopklijdaaGreatDoorNwJ10c5
set_option linter.constructorNameAsVariable false
set_option linter.unusedVariables false
set_option linter.unusedSimpArgs false
set_option linter.unusedSectionVars false
section
/- printed by xl10.py: function 10 counts the rests alone. -/
open Go Go.RowKit Go.Proofs
set_option linter.unusedVariables false
set_option maxRecDepth 100000
namespace Go.Proofs.Nw.X
open Go.Proofs.Nw.K
theorem conv_u (i : Int) (h : H) (n : Id) (k : KV) : evConv2 tbx mtab 3 22 (.i .i64 i) h n k = k (.i .u64 (.ofNat (uN i))) h n := by
  have e : evConv2 tbx mtab 3 22 (.i .i64 i) h n k = fI (wrapK .u64 i) fun r => k (.i .u64 r) h n := by kernel_rfl
  rw [e, fI_eq]
  cases i <;> rfl
theorem rem_2 (a : Nat) (kk : KP) : evBin2 tbx .rem 22 (.i .u64 (.ofNat a)) (.i .u64 (.ofNat 2)) kk = kk (.i .u64 (.ofNat (a % 2))) := by
  have e : evBin2 tbx .rem 22 (.i .u64 (.ofNat a)) (.i .u64 (.ofNat 2)) kk = fI (Int.tmod (.ofNat a) (.ofNat 2)) fun r => kk (.i .u64 r) := by kernel_rfl
  rw [e, fI_eq]
  rfl
theorem rem_3 (a : Nat) (kk : KP) : evBin2 tbx .rem 22 (.i .u64 (.ofNat a)) (.i .u64 (.ofNat 3)) kk = kk (.i .u64 (.ofNat (a % 3))) := by
  have e : evBin2 tbx .rem 22 (.i .u64 (.ofNat a)) (.i .u64 (.ofNat 3)) kk = fI (Int.tmod (.ofNat a) (.ofNat 3)) fun r => kk (.i .u64 r) := by kernel_rfl
  rw [e, fI_eq]
  rfl
theorem rem_4 (a : Nat) (kk : KP) : evBin2 tbx .rem 22 (.i .u64 (.ofNat a)) (.i .u64 (.ofNat 4)) kk = kk (.i .u64 (.ofNat (a % 4))) := by
  have e : evBin2 tbx .rem 22 (.i .u64 (.ofNat a)) (.i .u64 (.ofNat 4)) kk = fI (Int.tmod (.ofNat a) (.ofNat 4)) fun r => kk (.i .u64 r) := by kernel_rfl
  rw [e, fI_eq]
  rfl
theorem rem_5 (a : Nat) (kk : KP) : evBin2 tbx .rem 22 (.i .u64 (.ofNat a)) (.i .u64 (.ofNat 5)) kk = kk (.i .u64 (.ofNat (a % 5))) := by
  have e : evBin2 tbx .rem 22 (.i .u64 (.ofNat a)) (.i .u64 (.ofNat 5)) kk = fI (Int.tmod (.ofNat a) (.ofNat 5)) fun r => kk (.i .u64 r) := by kernel_rfl
  rw [e, fI_eq]
  rfl
theorem rem_6 (a : Nat) (kk : KP) : evBin2 tbx .rem 22 (.i .u64 (.ofNat a)) (.i .u64 (.ofNat 6)) kk = kk (.i .u64 (.ofNat (a % 6))) := by
  have e : evBin2 tbx .rem 22 (.i .u64 (.ofNat a)) (.i .u64 (.ofNat 6)) kk = fI (Int.tmod (.ofNat a) (.ofNat 6)) fun r => kk (.i .u64 r) := by kernel_rfl
  rw [e, fI_eq]
  rfl
theorem rem_7 (a : Nat) (kk : KP) : evBin2 tbx .rem 22 (.i .u64 (.ofNat a)) (.i .u64 (.ofNat 7)) kk = kk (.i .u64 (.ofNat (a % 7))) := by
  have e : evBin2 tbx .rem 22 (.i .u64 (.ofNat a)) (.i .u64 (.ofNat 7)) kk = fI (Int.tmod (.ofNat a) (.ofNat 7)) fun r => kk (.i .u64 r) := by kernel_rfl
  rw [e, fI_eq]
  rfl
noncomputable def u10 (fu : Nat) (cf : CF) (v4 v7 : V) (h : H) (n : Id) (k : KV) : R :=
 evConv2 tbx mtab 22 3 v7 h n fun v8 h n =>
 jp (fun (s9 : VT [0, 1, 5]) h n =>
 pc s9 fun v11 s12 =>
 pc s12 fun v13 s14 =>
 pc s14 fun v15 s16 =>
 cf 19 [v15] h n fun v17 h n =>
 evExt 0 v17 fun v18 =>
 evExt 1 v17 fun v19 =>
 evIa tbx 28 v15 (.i .i64 0) fun v20 =>
 evFa tbx 37 0 v20 fun v21 =>
 evLoad tbx 24 v21 h fun v22 =>
 cf 29 [v18, v22] h n fun v23 h n =>
 evExt 0 v23 fun v24 =>
 evExt 1 v23 fun v25 =>
 evAlloc tbx 66 h n fun v26 h n =>
 evStore tbx 66 v26 v24 h n fun _ h n =>
 cf 30 [] h n fun v27 h n =>
 evUn .not v27 fun v28 =>
 jp (fun (v29 : V) h n =>
 jp (fun (v31 : V) h n =>
 evPick v28 (.b true) v31 fun v33 =>
 jp (fun (v34 : V) h n =>
 jp (fun (v36 : V) h n =>
 evPick v33 (.b true) v36 fun v38 =>
 brB v38 (
 k (.b false) h n) (
 jp (fun (s39 : VT [0, 1, 12, 13]) h n =>
 pc s39 fun v41 s42 =>
 pc s42 fun v43 s44 =>
 pc s44 fun v45 s46 =>
 pc s46 fun v47 s48 =>
 evBin2 tbx .sub 3 v41 v43 fun v49 =>
 evBin2 tbx .eql 3 v45 v49 fun v50 =>
 jp (fun (v51 : V) h n =>
 jp (fun (v53 : V) h n =>
 jp (fun (v55 : V) h n =>
 jp (fun (v57 : V) h n =>
 jp (fun (v59 : V) h n =>
 evPick v50 v59 (.b false) fun v61 =>
 k v61 h n) fun kk60 =>
 gdB v50 true ((evBin2 tbx .eql 9 v51 v57 fun v => kk60 v h n)) (kk60 (.tp []) h n)) fun kk58 =>
 gdB v50 true ((cf 16 [v55] h n kk58)) (kk58 (.tp []) h n)) fun kk56 =>
 gdB v50 true ((evBin2 tbx .add 3 v53 (.i .i64 1) fun v => kk56 v h n)) (kk56 (.tp []) h n)) fun kk54 =>
 gdB v50 true (kk54 v43 h n) (kk54 (.tp []) h n)) fun kk52 =>
 gdB v50 true (kk52 v47 h n) (kk52 (.tp []) h n)) fun kk40 =>
 lpC [0, 1, 10, 12, 13, 14] (fun lo63 s62 h n =>
 pc s62 fun v64 s65 =>
 pc s65 fun v66 s67 =>
 pc s67 fun v68 s69 =>
 pc s69 fun v70 s71 =>
 pc s71 fun v72 s73 =>
 pc s73 fun v74 s75 =>
 evFa tbx 66 1 v68 fun v76 =>
 evLoad tbx 64 v76 h fun v77 =>
 evLen tbx 64 v77 fun v78 =>
 evBin2 tbx .lss 3 v74 v78 fun v79 =>
 brB v79 (
 jp (fun (s80 : VT [0, 1, 10, 12, 13, 14]) h n =>
 pc s80 fun v82 s83 =>
 pc s83 fun v84 s85 =>
 pc s85 fun v86 s87 =>
 pc s87 fun v88 s89 =>
 pc s89 fun v90 s91 =>
 pc s91 fun v92 s93 =>
 evBin2 tbx .add 3 v92 (.i .i64 1) fun v94 =>
 lo63 (v82, v84, v86, v88, v90, v94, ()) h n) fun kk81 =>
 evFa tbx 66 1 v68 fun v95 =>
 evLoad tbx 64 v95 h fun v96 =>
 evIa tbx 64 v96 v74 fun v97 =>
 evFa tbx 70 2 v97 fun v98 =>
 evFa tbx 51 1 v98 fun v99 =>
 evLoad tbx 9 v99 h fun v100 =>
 evBin2 tbx .eql 9 v100 (.s 1 122) fun v101 =>
 brB v101 (
 evBin2 tbx .add 3 v70 (.i .i64 1) fun v102 =>
 evFa tbx 66 1 v68 fun v103 =>
 evLoad tbx 64 v103 h fun v104 =>
 evIa tbx 64 v104 v74 fun v105 =>
 evFa tbx 70 3 v105 fun v106 =>
 evLoad tbx 3 v106 h fun v107 =>
 evBin2 tbx .eql 3 v107 (.i .i64 1) fun v108 =>
 brB v108 (
 evFa tbx 66 1 v68 fun v109 =>
 evLoad tbx 64 v109 h fun v110 =>
 evIa tbx 64 v110 v74 fun v111 =>
 evFa tbx 70 2 v111 fun v112 =>
 evFa tbx 51 2 v112 fun v113 =>
 evLoad tbx 9 v113 h fun v114 =>
 kk81 (v64, v66, v68, v102, v114, v74, ()) h n) (
 evFa tbx 66 1 v68 fun v115 =>
 evLoad tbx 64 v115 h fun v116 =>
 evIa tbx 64 v116 v74 fun v117 =>
 evFa tbx 70 3 v117 fun v118 =>
 evLoad tbx 3 v118 h fun v119 =>
 evBin2 tbx .neq 3 v119 (.i .i64 2) fun v120 =>
 brB v120 (
 k (.b false) h n) (
 kk81 (v64, v66, v68, v102, v72, v74, ()) h n))) (
 kk81 (v64, v66, v68, v70, v72, v74, ()) h n)) (
 kk40 (v64, v66, v70, v72, ()) h n)) fu (v11, v13, v26, (.i .i64 0), (.s 0 0), (.i .i64 0), ()) h n)) fun kk37 =>
 gdB v33 false ((evBin2 tbx .neq 33 v34 (.i .i64 0) fun v => kk37 v h n)) (kk37 (.tp []) h n)) fun kk35 =>
 gdB v33 false (kk35 v25 h n) (kk35 (.tp []) h n)) fun kk32 =>
 gdB v28 false ((evBin2 tbx .neq 33 v29 (.i .i64 0) fun v => kk32 v h n)) (kk32 (.tp []) h n)) fun kk30 =>
 gdB v28 false (kk30 v19 h n) (kk30 (.tp []) h n)) fun kk10 =>
 lpC [0, 1, 5, 6] (fun lo122 s121 h n =>
 pc s121 fun v123 s124 =>
 pc s124 fun v125 s126 =>
 pc s126 fun v127 s128 =>
 pc s128 fun v129 s130 =>
 evBin2 tbx .lss 3 v129 v123 fun v131 =>
 brB v131 (
 jp (fun (s132 : VT [0, 1, 5, 6]) h n =>
 pc s132 fun v134 s135 =>
 pc s135 fun v136 s137 =>
 pc s137 fun v138 s139 =>
 pc s139 fun v140 s141 =>
 evBin2 tbx .add 3 v140 (.i .i64 1) fun v142 =>
 lo122 (v134, v136, v138, v142, ()) h n) fun kk133 =>
 jp (fun (s143 : VT [0, 1, 5, 6, 7]) h n =>
 pc s143 fun v145 s146 =>
 pc s146 fun v147 s148 =>
 pc s148 fun v149 s150 =>
 pc s150 fun v151 s152 =>
 pc s152 fun v153 s154 =>
 jp (fun (s155 : VT [0, 1, 5, 6, 7]) h n =>
 pc s155 fun v157 s158 =>
 pc s158 fun v159 s160 =>
 pc s160 fun v161 s162 =>
 pc s162 fun v163 s164 =>
 pc s164 fun v165 s166 =>
 cf 16 [v163] h n fun v167 h n =>
 evBin2 tbx .add 9 (.s 1 112) v167 fun v168 =>
 cf 27 [v168, (.s 1 49), v165] h n fun v169 h n =>
 evBuildSl tbx 28 1 [(0, v169)] h n fun v170 h n =>
 evApp tbx 28 28 v161 v170 h n fun v171 h n =>
 evBin2 tbx .add 3 v163 (.i .i64 1) fun v172 =>
 cf 16 [v172] h n fun v173 h n =>
 cf 27 [(.s 1 122), v173, .ns] h n fun v174 h n =>
 evBuildSl tbx 28 1 [(0, v174)] h n fun v175 h n =>
 evApp tbx 28 28 v171 v175 h n fun v176 h n =>
 kk133 (v157, v159, v176, v163, ()) h n) fun kk156 =>
 evBin2 tbx .geq 3 v151 v147 fun v177 =>
 brB v177 (
 evBin2 tbx .add 3 v151 (.i .i64 1) fun v178 =>
 cf 16 [v178] h n fun v179 h n =>
 cf 28 [(.s 1 122), v179] h n fun v180 h n =>
 evBuildSl tbx 30 1 [(0, v180)] h n fun v181 h n =>
 evApp tbx 30 30 v153 v181 h n fun v182 h n =>
 kk156 (v145, v147, v149, v151, v182, ()) h n) (
 kk156 (v145, v147, v149, v151, v153, ()) h n)) fun kk144 =>
 evBin2 tbx .sub 3 v123 (.i .i64 1) fun v183 =>
 evBin2 tbx .lss 3 v129 v183 fun v184 =>
 brB v184 (
 evBin2 tbx .add 3 v129 (.i .i64 1) fun v185 =>
 cf 16 [v185] h n fun v186 h n =>
 evBin2 tbx .add 9 (.s 1 112) v186 fun v187 =>
 cf 28 [v187, (.s 1 49)] h n fun v188 h n =>
 evBuildSl tbx 30 1 [(0, v188)] h n fun v189 h n =>
 evApp tbx 30 30 .ns v189 h n fun v190 h n =>
 kk144 (v123, v125, v127, v129, v190, ()) h n) (
 kk144 (v123, v125, v127, v129, .ns, ()) h n)) (
 kk10 (v123, v125, v127, ()) h n)) fu (v4, v8, .ns, (.i .i64 0), ()) h n
noncomputable def f10 (fu : Nat) (cf : CF) (a1 v4 : V) (h : H) (n : Id) (k : KV) : R := evConv2 tbx mtab 3 22 a1 h n fun v5 h n => evConv2 tbx mtab 3 22 v4 h n fun v6 h n => evBin2 tbx .rem 22 v5 v6 fun v7 => u10 fu cf v4 v7 h n k
noncomputable def g10 (fu : Nat) (cf : CF) (a1 v2 : V) (h : H) (n : Id) (k : KV) : R := evConv2 tbx mtab 22 3 v2 h n fun v3 h n => evBin2 tbx .add 3 (.i .i64 2) v3 fun v4 => f10 fu cf a1 v4 h n k
theorem s10_g (fu : Nat) (cf : CF) (a0 a1 : V) (h : H) (n : Id) (k : KV) : s10 fu cf a0 a1 h n k = (evConv2 tbx mtab 3 22 a0 h n fun v1 h n => evBin2 tbx .rem 22 v1 (.i .u64 (.ofNat 6)) fun v2 => g10 fu cf a1 v2 h n k) := by kernel_rfl
theorem g10_0 (fu : Nat) (cf : CF) (a1 : V) (h : H) (n : Id) (k : KV) : g10 fu cf a1 (.i .u64 (.ofNat 0)) h n k = f10 fu cf a1 (vN 2) h n k := by kernel_rfl
theorem s10_0 (fu : Nat) (cf : CF) (i j : Int) (hi : uN i % 6 = 0) (h : H) (n : Id) (k : KV) : s10 fu cf (.i .i64 i) (.i .i64 j) h n k = u10 fu cf (vN 2) (.i .u64 (.ofNat (uN j % 2))) h n k := by
  rw [s10_g, conv_u, rem_6, hi, g10_0]
  unfold f10
  rw [conv_u, conv_u, show uN (Int.ofNat 2) = 2 from rfl, rem_2]
theorem s10_r0 (fu : Nat) (cf : CF) (i j : Int) (hi : uN i % 6 = 0) (h : H) (n : Id) (k : KV) : s10 fu cf (.i .i64 i) (.i .i64 j) h n k = s10 fu cf (vN 0) (vN (uN j % 2)) h n k := by
  rw [s10_0 fu cf i j hi, s10_0 fu cf (.ofNat 0) (.ofNat (uN j % 2)) rfl, uN_nat (Nat.lt_trans (Nat.mod_lt _ (by omega)) (by omega : 2 < 18446744073709551616)), Nat.mod_mod]
theorem g10_1 (fu : Nat) (cf : CF) (a1 : V) (h : H) (n : Id) (k : KV) : g10 fu cf a1 (.i .u64 (.ofNat 1)) h n k = f10 fu cf a1 (vN 3) h n k := by kernel_rfl
theorem s10_1 (fu : Nat) (cf : CF) (i j : Int) (hi : uN i % 6 = 1) (h : H) (n : Id) (k : KV) : s10 fu cf (.i .i64 i) (.i .i64 j) h n k = u10 fu cf (vN 3) (.i .u64 (.ofNat (uN j % 3))) h n k := by
  rw [s10_g, conv_u, rem_6, hi, g10_1]
  unfold f10
  rw [conv_u, conv_u, show uN (Int.ofNat 3) = 3 from rfl, rem_3]
theorem s10_r1 (fu : Nat) (cf : CF) (i j : Int) (hi : uN i % 6 = 1) (h : H) (n : Id) (k : KV) : s10 fu cf (.i .i64 i) (.i .i64 j) h n k = s10 fu cf (vN 1) (vN (uN j % 3)) h n k := by
  rw [s10_1 fu cf i j hi, s10_1 fu cf (.ofNat 1) (.ofNat (uN j % 3)) rfl, uN_nat (Nat.lt_trans (Nat.mod_lt _ (by omega)) (by omega : 3 < 18446744073709551616)), Nat.mod_mod]
theorem g10_2 (fu : Nat) (cf : CF) (a1 : V) (h : H) (n : Id) (k : KV) : g10 fu cf a1 (.i .u64 (.ofNat 2)) h n k = f10 fu cf a1 (vN 4) h n k := by kernel_rfl
theorem s10_2 (fu : Nat) (cf : CF) (i j : Int) (hi : uN i % 6 = 2) (h : H) (n : Id) (k : KV) : s10 fu cf (.i .i64 i) (.i .i64 j) h n k = u10 fu cf (vN 4) (.i .u64 (.ofNat (uN j % 4))) h n k := by
  rw [s10_g, conv_u, rem_6, hi, g10_2]
  unfold f10
  rw [conv_u, conv_u, show uN (Int.ofNat 4) = 4 from rfl, rem_4]
theorem s10_r2 (fu : Nat) (cf : CF) (i j : Int) (hi : uN i % 6 = 2) (h : H) (n : Id) (k : KV) : s10 fu cf (.i .i64 i) (.i .i64 j) h n k = s10 fu cf (vN 2) (vN (uN j % 4)) h n k := by
  rw [s10_2 fu cf i j hi, s10_2 fu cf (.ofNat 2) (.ofNat (uN j % 4)) rfl, uN_nat (Nat.lt_trans (Nat.mod_lt _ (by omega)) (by omega : 4 < 18446744073709551616)), Nat.mod_mod]
theorem g10_3 (fu : Nat) (cf : CF) (a1 : V) (h : H) (n : Id) (k : KV) : g10 fu cf a1 (.i .u64 (.ofNat 3)) h n k = f10 fu cf a1 (vN 5) h n k := by kernel_rfl
theorem s10_3 (fu : Nat) (cf : CF) (i j : Int) (hi : uN i % 6 = 3) (h : H) (n : Id) (k : KV) : s10 fu cf (.i .i64 i) (.i .i64 j) h n k = u10 fu cf (vN 5) (.i .u64 (.ofNat (uN j % 5))) h n k := by
  rw [s10_g, conv_u, rem_6, hi, g10_3]
  unfold f10
  rw [conv_u, conv_u, show uN (Int.ofNat 5) = 5 from rfl, rem_5]
theorem s10_r3 (fu : Nat) (cf : CF) (i j : Int) (hi : uN i % 6 = 3) (h : H) (n : Id) (k : KV) : s10 fu cf (.i .i64 i) (.i .i64 j) h n k = s10 fu cf (vN 3) (vN (uN j % 5)) h n k := by
  rw [s10_3 fu cf i j hi, s10_3 fu cf (.ofNat 3) (.ofNat (uN j % 5)) rfl, uN_nat (Nat.lt_trans (Nat.mod_lt _ (by omega)) (by omega : 5 < 18446744073709551616)), Nat.mod_mod]
theorem g10_4 (fu : Nat) (cf : CF) (a1 : V) (h : H) (n : Id) (k : KV) : g10 fu cf a1 (.i .u64 (.ofNat 4)) h n k = f10 fu cf a1 (vN 6) h n k := by kernel_rfl
theorem s10_4 (fu : Nat) (cf : CF) (i j : Int) (hi : uN i % 6 = 4) (h : H) (n : Id) (k : KV) : s10 fu cf (.i .i64 i) (.i .i64 j) h n k = u10 fu cf (vN 6) (.i .u64 (.ofNat (uN j % 6))) h n k := by
  rw [s10_g, conv_u, rem_6, hi, g10_4]
  unfold f10
  rw [conv_u, conv_u, show uN (Int.ofNat 6) = 6 from rfl, rem_6]
theorem s10_r4 (fu : Nat) (cf : CF) (i j : Int) (hi : uN i % 6 = 4) (h : H) (n : Id) (k : KV) : s10 fu cf (.i .i64 i) (.i .i64 j) h n k = s10 fu cf (vN 4) (vN (uN j % 6)) h n k := by
  rw [s10_4 fu cf i j hi, s10_4 fu cf (.ofNat 4) (.ofNat (uN j % 6)) rfl, uN_nat (Nat.lt_trans (Nat.mod_lt _ (by omega)) (by omega : 6 < 18446744073709551616)), Nat.mod_mod]
theorem g10_5 (fu : Nat) (cf : CF) (a1 : V) (h : H) (n : Id) (k : KV) : g10 fu cf a1 (.i .u64 (.ofNat 5)) h n k = f10 fu cf a1 (vN 7) h n k := by kernel_rfl
theorem s10_5 (fu : Nat) (cf : CF) (i j : Int) (hi : uN i % 6 = 5) (h : H) (n : Id) (k : KV) : s10 fu cf (.i .i64 i) (.i .i64 j) h n k = u10 fu cf (vN 7) (.i .u64 (.ofNat (uN j % 7))) h n k := by
  rw [s10_g, conv_u, rem_6, hi, g10_5]
  unfold f10
  rw [conv_u, conv_u, show uN (Int.ofNat 7) = 7 from rfl, rem_7]
theorem s10_r5 (fu : Nat) (cf : CF) (i j : Int) (hi : uN i % 6 = 5) (h : H) (n : Id) (k : KV) : s10 fu cf (.i .i64 i) (.i .i64 j) h n k = s10 fu cf (vN 5) (vN (uN j % 7)) h n k := by
  rw [s10_5 fu cf i j hi, s10_5 fu cf (.ofNat 5) (.ofNat (uN j % 7)) rfl, uN_nat (Nat.lt_trans (Nat.mod_lt _ (by omega)) (by omega : 7 < 18446744073709551616)), Nat.mod_mod]
theorem wv2 (s : CF → V → V → H → Id → KV → R) (cf : CF) (a0 a1 : V) (h : H) (n : Id) (k : KV) : w2 s cf [a0, a1] h n k = s cf a0 a1 h n k := rfl
end Go.Proofs.Nw.X
end
section
/- printed by xl10.py: function 10 returns true. -/
open Go Go.RowKit Go.Proofs
set_option maxRecDepth 100000
namespace Go.Proofs.Nw.X
open Go.Proofs.Nw.K
theorem all10_0 (q : Nat) (hq : q < 2) : cfY 200 10 [vN 0, vN q] .e n0 kEnd = some (.b true) := by
  match q, hq with
  | 0, _ => exact c10_0_0
  | 1, _ => exact c10_0_1
  | q + 2, hq => exact absurd hq (by omega)
theorem all10_1 (q : Nat) (hq : q < 3) : cfY 200 10 [vN 1, vN q] .e n0 kEnd = some (.b true) := by
  match q, hq with
  | 0, _ => exact c10_1_0
  | 1, _ => exact c10_1_1
  | 2, _ => exact c10_1_2
  | q + 3, hq => exact absurd hq (by omega)
theorem all10_2 (q : Nat) (hq : q < 4) : cfY 200 10 [vN 2, vN q] .e n0 kEnd = some (.b true) := by
  match q, hq with
  | 0, _ => exact c10_2_0
  | 1, _ => exact c10_2_1
  | 2, _ => exact c10_2_2
  | 3, _ => exact c10_2_3
  | q + 4, hq => exact absurd hq (by omega)
theorem all10_3 (q : Nat) (hq : q < 5) : cfY 200 10 [vN 3, vN q] .e n0 kEnd = some (.b true) := by
  match q, hq with
  | 0, _ => exact c10_3_0
  | 1, _ => exact c10_3_1
  | 2, _ => exact c10_3_2
  | 3, _ => exact c10_3_3
  | 4, _ => exact c10_3_4
  | q + 5, hq => exact absurd hq (by omega)
theorem all10_4 (q : Nat) (hq : q < 6) : cfY 200 10 [vN 4, vN q] .e n0 kEnd = some (.b true) := by
  match q, hq with
  | 0, _ => exact c10_4_0
  | 1, _ => exact c10_4_1
  | 2, _ => exact c10_4_2
  | 3, _ => exact c10_4_3
  | 4, _ => exact c10_4_4
  | 5, _ => exact c10_4_5
  | q + 6, hq => exact absurd hq (by omega)
theorem all10_5 (q : Nat) (hq : q < 7) : cfY 200 10 [vN 5, vN q] .e n0 kEnd = some (.b true) := by
  match q, hq with
  | 0, _ => exact c10_5_0
  | 1, _ => exact c10_5_1
  | 2, _ => exact c10_5_2
  | 3, _ => exact c10_5_3
  | 4, _ => exact c10_5_4
  | 5, _ => exact c10_5_5
  | 6, _ => exact c10_5_6
  | q + 7, hq => exact absurd hq (by omega)
theorem any10 (i j : Int) : cfY 200 10 [.i .i64 i, .i .i64 j] .e n0 kEnd = some (.b true) := by
  have e : ∀ vs h n k, cfY 200 10 vs h n k = w2 (s10 fuX) (cfY 199) vs h n k := fun vs h n k => by kernel_rfl
  have hl : uN i % 6 < 6 := Nat.mod_lt _ (by omega)
  rcases (by omega : uN i % 6 = 0 ∨ uN i % 6 = 1 ∨ uN i % 6 = 2 ∨ uN i % 6 = 3 ∨ uN i % 6 = 4 ∨ uN i % 6 = 5) with hr | hr | hr | hr | hr | hr
  · rw [e, wv2, s10_r0 _ _ i j hr, ← wv2 (s10 fuX), ← e]
    exact all10_0 _ (Nat.mod_lt _ (by omega))
  · rw [e, wv2, s10_r1 _ _ i j hr, ← wv2 (s10 fuX), ← e]
    exact all10_1 _ (Nat.mod_lt _ (by omega))
  · rw [e, wv2, s10_r2 _ _ i j hr, ← wv2 (s10 fuX), ← e]
    exact all10_2 _ (Nat.mod_lt _ (by omega))
  · rw [e, wv2, s10_r3 _ _ i j hr, ← wv2 (s10 fuX), ← e]
    exact all10_3 _ (Nat.mod_lt _ (by omega))
  · rw [e, wv2, s10_r4 _ _ i j hr, ← wv2 (s10 fuX), ← e]
    exact all10_4 _ (Nat.mod_lt _ (by omega))
  · rw [e, wv2, s10_r5 _ _ i j hr, ← wv2 (s10 fuX), ← e]
    exact all10_5 _ (Nat.mod_lt _ (by omega))
theorem run10 (i j : Int) {W : World} (hG : Gi W) : Calls Tryz.prog 10 #[.int .i64 i, .int .i64 j] W fun e W' => e = .returned (.bool true) ∧ Below W.heap.size W W' :=
  law_run (us := [.int .i64 i, .int .i64 j]) (vs := [.i .i64 i, .i .i64 j]) (by kernel_rfl) (cfY_ok 200 10) (any10 i j) hG ⟨_, _, rfl, rfl, ⟨_, _, rfl, rfl, rfl⟩⟩
end Go.Proofs.Nw.X
end
