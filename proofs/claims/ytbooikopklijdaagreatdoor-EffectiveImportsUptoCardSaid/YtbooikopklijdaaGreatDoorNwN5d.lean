/- Bundle: NwX5D0, NwX5D. -/
import Derived.Test.YtbooikopklijdaaGreatDoorNwN13
import Derived.Test.YtbooikopklijdaaGreatDoorNwN5c1
import Derived.Test.YtbooikopklijdaaGreatDoorNwN5c2
import Derived.Test.YtbooikopklijdaaGreatDoorNwN5c3
set_option linter.constructorNameAsVariable false
set_option linter.unusedVariables false
set_option linter.unusedSimpArgs false
set_option linter.unusedSectionVars false
section
/- printed by xl.py: function 5 counts the rest by 8. -/
open Go Go.RowKit Go.Proofs
set_option linter.unusedVariables false
set_option maxRecDepth 100000
namespace Go.Proofs.Nw.X
open Go.Proofs.Nw.K
theorem conv_u (i : Int) (h : H) (n : Id) (k : KV) : evConv2 tbx mtab 3 22 (.i .i64 i) h n k = k (.i .u64 (.ofNat (uN i))) h n := by
  have e : evConv2 tbx mtab 3 22 (.i .i64 i) h n k = fI (wrapK .u64 i) fun r => k (.i .u64 r) h n := by kernel_rfl
  rw [e, fI_eq]
  cases i <;> rfl
theorem rem_u (a : Nat) (kk : KP) : evBin2 tbx .rem 22 (.i .u64 (.ofNat a)) (.i .u64 8) kk = kk (.i .u64 (.ofNat (a % 8))) := by
  have e : evBin2 tbx .rem 22 (.i .u64 (.ofNat a)) (.i .u64 8) kk = fI (Int.tmod (.ofNat a) (.ofNat 8)) fun r => kk (.i .u64 r) := by kernel_rfl
  rw [e, fI_eq]
  rfl
noncomputable def t5 (rm : H → Id → KV → R) (fu : Nat) (cf : CF) (a0 a1 : V) (h : H) (n : Id) (k : KV) : R :=
 rm h n fun v2 h n =>
 evConv2 tbx mtab 22 3 v2 h n fun v3 h n =>
 evBin2 tbx .add 3 (.i .i64 1) v3 fun v4 =>
 jp (fun (s5 : VT [0, 1, 5]) h n =>
 pc s5 fun v7 s8 =>
 pc s8 fun v9 s10 =>
 pc s10 fun v11 s12 =>
 cf 23 [v11] h n fun v13 h n =>
 evExt 0 v13 fun v14 =>
 evExt 1 v13 fun v15 =>
 evIa tbx 28 v11 (.i .i64 0) fun v16 =>
 evFa tbx 37 0 v16 fun v17 =>
 evLoad tbx 24 v17 h fun v18 =>
 cf 24 [v14, v18] h n fun v19 h n =>
 evExt 0 v19 fun v20 =>
 evExt 1 v19 fun v21 =>
 evAlloc tbx 32 h n fun v22 h n =>
 evStore tbx 32 v22 v20 h n fun _ h n =>
 evBin2 tbx .gtr 3 v7 (.i .i64 5) fun v23 =>
 brB v23 (
 cf 25 [] h n fun v24 h n =>
 jp (fun (v25 : V) h n =>
 jp (fun (v27 : V) h n =>
 evPick v24 v27 (.b false) fun v29 =>
 k v29 h n) fun kk28 =>
 gdB v24 true ((evBin2 tbx .eql 33 v25 (.i .i64 7) fun v => kk28 v h n)) (kk28 (.tp []) h n)) fun kk26 =>
 gdB v24 true (kk26 v21 h n) (kk26 (.tp []) h n)) (
 brB v9 (
 cf 25 [] h n fun v30 h n =>
 jp (fun (v31 : V) h n =>
 jp (fun (v33 : V) h n =>
 evPick v30 v33 (.b false) fun v35 =>
 k v35 h n) fun kk34 =>
 gdB v30 true ((evBin2 tbx .eql 33 v31 (.i .i64 16) fun v => kk34 v h n)) (kk34 (.tp []) h n)) fun kk32 =>
 gdB v30 true (kk32 v21 h n) (kk32 (.tp []) h n)) (
 evBin2 tbx .neq 33 v21 (.i .i64 0) fun v36 =>
 jp (fun (v37 : V) h n =>
 jp (fun (v39 : V) h n =>
 jp (fun (v41 : V) h n =>
 jp (fun (v43 : V) h n =>
 jp (fun (v45 : V) h n =>
 jp (fun (v47 : V) h n =>
 evPick v36 (.b true) v47 fun v49 =>
 jp (fun (v50 : V) h n =>
 jp (fun (v52 : V) h n =>
 jp (fun (v54 : V) h n =>
 jp (fun (v56 : V) h n =>
 jp (fun (v58 : V) h n =>
 jp (fun (v60 : V) h n =>
 evPick v49 (.b true) v60 fun v62 =>
 brB v62 (
 k (.b false) h n) (
 jp (fun (s63 : VT []) h n =>
 cf 25 [] h n fun v65 h n =>
 k v65 h n) fun kk64 =>
 lpC [0, 13, 15] (fun lo67 s66 h n =>
 pc s66 fun v68 s69 =>
 pc s69 fun v70 s71 =>
 pc s71 fun v72 s73 =>
 evBin2 tbx .lss 3 v72 v68 fun v74 =>
 brB v74 (
 jp (fun (s75 : VT [0, 13, 15]) h n =>
 pc s75 fun v77 s78 =>
 pc s78 fun v79 s80 =>
 pc s80 fun v81 s82 =>
 evBin2 tbx .add 3 v81 (.i .i64 1) fun v83 =>
 lo67 (v77, v79, v83, ()) h n) fun kk76 =>
 evFa tbx 32 6 v70 fun v84 =>
 evLoad tbx 30 v84 h fun v85 =>
 evBin2 tbx .add 3 v72 (.i .i64 1) fun v86 =>
 evIa tbx 30 v85 v86 fun v87 =>
 evFa tbx 51 1 v87 fun v88 =>
 evLoad tbx 9 v88 h fun v89 =>
 evLoad tbx 30 v84 h fun w96 => cond (eqV 6 w96 v85) (
 evLoad tbx 9 v88 h fun w95 => cond (eqV 6 w95 v89) (
 cf 16 [v72] h n fun v90 h n =>
 evBin2 tbx .add 9 (.s 4 1869507705) v90 fun v91 =>
 evBin2 tbx .neq 9 v89 v91 fun v92 =>
 evLoad tbx 30 v84 h fun w94 => cond (eqV 6 w94 v85) (
 evLoad tbx 9 v88 h fun w93 => cond (eqV 6 w93 v89) (
 brB v92 (
 k (.b false) h n) (
 kk76 (v68, v70, v72, ()) h n)) none) none) none) none) (
 kk64 (()) h n)) fu (v7, v22, (.i .i64 0), ()) h n)) fun kk61 =>
 gdB v49 false ((evBin2 tbx .neq 9 v58 (.s 1 49) fun v => kk61 v h n)) (kk61 (.tp []) h n)) fun kk59 =>
 gdB v49 false ((evLoad tbx 9 v56 h fun v => kk59 v h n)) (kk59 (.tp []) h n)) fun kk57 =>
 gdB v49 false ((evFa tbx 51 2 v54 fun v => kk57 v h n)) (kk57 (.tp []) h n)) fun kk55 =>
 gdB v49 false ((evIa tbx 30 v52 (.i .i64 0) fun v => kk55 v h n)) (kk55 (.tp []) h n)) fun kk53 =>
 gdB v49 false ((evLoad tbx 30 v50 h fun v => kk53 v h n)) (kk53 (.tp []) h n)) fun kk51 =>
 gdB v49 false ((evFa tbx 32 6 v22 fun v => kk51 v h n)) (kk51 (.tp []) h n)) fun kk48 =>
 gdB v36 false ((evBin2 tbx .neq 3 v41 v45 fun v => kk48 v h n)) (kk48 (.tp []) h n)) fun kk46 =>
 gdB v36 false ((evBin2 tbx .add 3 v43 (.i .i64 1) fun v => kk46 v h n)) (kk46 (.tp []) h n)) fun kk44 =>
 gdB v36 false (kk44 v7 h n) (kk44 (.tp []) h n)) fun kk42 =>
 gdB v36 false ((evLen tbx 30 v39 fun v => kk42 v h n)) (kk42 (.tp []) h n)) fun kk40 =>
 gdB v36 false ((evLoad tbx 30 v37 h fun v => kk40 v h n)) (kk40 (.tp []) h n)) fun kk38 =>
 gdB v36 false ((evFa tbx 32 6 v22 fun v => kk38 v h n)) (kk38 (.tp []) h n)))) fun kk6 =>
 lpC [0, 1, 5, 6] (fun lo98 s97 h n =>
 pc s97 fun v99 s100 =>
 pc s100 fun v101 s102 =>
 pc s102 fun v103 s104 =>
 pc s104 fun v105 s106 =>
 evBin2 tbx .lss 3 v105 v99 fun v107 =>
 brB v107 (
 jp (fun (s108 : VT [0, 1, 5, 6]) h n =>
 pc s108 fun v110 s111 =>
 pc s111 fun v112 s113 =>
 pc s113 fun v114 s115 =>
 pc s115 fun v116 s117 =>
 evBin2 tbx .add 3 v116 (.i .i64 1) fun v118 =>
 lo98 (v110, v112, v114, v118, ()) h n) fun kk109 =>
 cf 16 [v105] h n fun v119 h n =>
 evBin2 tbx .add 9 (.s 1 112) v119 fun v120 =>
 evBin2 tbx .add 3 v105 (.i .i64 1) fun v121 =>
 cf 16 [v121] h n fun v122 h n =>
 evBuild tbx 51 [(0, (.s 1 103)), (1, (.s 3 6384748)), (2, v122)] fun v123 =>
 cf 16 [v105] h n fun v124 h n =>
 evBin2 tbx .add 9 (.s 4 1869507705) v124 fun v125 =>
 evBuild tbx 51 [(0, (.s 1 103)), (1, v125), (2, (.s 1 49))] fun v126 =>
 evBuildSl tbx 30 2 [(0, v123), (1, v126)] h n fun v127 h n =>
 evBuild tbx 32 [(1, (.s 1 103)), (2, v120), (3, (.s 1 49)), (6, v127)] fun v128 =>
 evAlloc tbx 32 h n fun v129 h n =>
 evStore tbx 32 v129 v128 h n fun _ h n =>
 jp (fun (s130 : VT [0, 1, 5, 6, 7, 8]) h n =>
 pc s130 fun v132 s133 =>
 pc s133 fun v134 s135 =>
 pc s135 fun v136 s137 =>
 pc s137 fun v138 s139 =>
 pc s139 fun v140 s141 =>
 pc s141 fun v142 s143 =>
 evLoad tbx 32 v142 h fun v144 =>
 cf 18 [v144] h n fun v145 h n =>
 evExt 0 v145 fun v146 =>
 evExt 1 v145 fun v147 =>
 evBuild tbx 24 [(0, (.s 1 103)), (1, v140), (2, (.s 1 49))] fun v148 =>
 evBuild tbx 37 [(0, v148), (1, v146)] fun v149 =>
 evBuildSl tbx 28 1 [(0, v149)] h n fun v150 h n =>
 evApp tbx 28 28 v136 v150 h n fun v151 h n =>
 kk109 (v132, v134, v151, v138, ()) h n) fun kk131 =>
 evBin2 tbx .sub 3 v99 (.i .i64 1) fun v152 =>
 evBin2 tbx .lss 3 v105 v152 fun v153 =>
 brB v153 (
 evFa tbx 32 6 v129 fun v154 =>
 evLoad tbx 30 v154 h fun v155 =>
 evBin2 tbx .add 3 v105 (.i .i64 1) fun v156 =>
 evLoad tbx 30 v154 h fun w165 => cond (eqV 6 w165 v155) (
 cf 16 [v156] h n fun v157 h n =>
 evBin2 tbx .add 9 (.s 1 112) v157 fun v158 =>
 evBuild tbx 51 [(0, (.s 1 103)), (1, v158), (2, (.s 1 49)), (3, (.s 3 7368557)), (5, (.s 6 115918758703732))] fun v159 =>
 evLoad tbx 30 v154 h fun w164 => cond (eqV 6 w164 v155) (
 evBuildSl tbx 30 1 [(0, v159)] h n fun v160 h n =>
 evLoad tbx 30 v154 h fun w163 => cond (eqV 6 w163 v155) (
 evApp tbx 30 30 v155 v160 h n fun v161 h n =>
 evFa tbx 32 6 v129 fun v162 =>
 evStore tbx 30 v162 v161 h n fun _ h n =>
 kk131 (v99, v101, v103, v105, v120, v129, ()) h n) none) none) none) (
 brB v101 (
 evFa tbx 32 6 v129 fun v166 =>
 evLoad tbx 30 v166 h fun v167 =>
 evBuild tbx 51 [(0, (.s 1 103)), (1, (.s 2 28720)), (2, (.s 1 49)), (3, (.s 3 7368557)), (5, (.s 6 115918758703732))] fun v168 =>
 evBuildSl tbx 30 1 [(0, v168)] h n fun v169 h n =>
 evApp tbx 30 30 v167 v169 h n fun v170 h n =>
 evFa tbx 32 6 v129 fun v171 =>
 evStore tbx 30 v171 v170 h n fun _ h n =>
 kk131 (v99, v101, v103, v105, v120, v129, ()) h n) (
 kk131 (v99, v101, v103, v105, v120, v129, ()) h n))) (
 kk6 (v99, v101, v103, ()) h n)) fu (v4, a1, .ns, (.i .i64 0), ()) h n
noncomputable def rm5 (i : Int) : H → Id → KV → R := fun h n k => evConv2 tbx mtab 3 22 (.i .i64 i) h n fun v h n => evBin2 tbx .rem 22 v (.i .u64 8) fun v => k v h n
theorem rm5_eq (i : Int) : rm5 i = rm5 (.ofNat (uN i % 8)) := by
  funext h n k
  unfold rm5
  rw [conv_u, conv_u, rem_u, rem_u, uN_nat (Nat.lt_trans (Nat.mod_lt _ (by omega)) (by omega : 8 < 18446744073709551616)), Nat.mod_mod]
theorem s5_t (fu : Nat) (cf : CF) (a1 : V) (i : Int) (h : H) (n : Id) (k : KV) : s5 fu cf (.i .i64 i) a1 h n k = t5 (rm5 i) fu cf (.i .i64 i) a1 h n k := by kernel_rfl
theorem t5_n (rm : H → Id → KV → R) (fu : Nat) (cf : CF) (a1 : V) (x y : V) (h : H) (n : Id) (k : KV) : t5 rm fu cf x a1 h n k = t5 rm fu cf y a1 h n k := by kernel_rfl
theorem s5_r (fu : Nat) (cf : CF) (a1 : V) (i : Int) (h : H) (n : Id) (k : KV) : s5 fu cf (.i .i64 i) a1 h n k = s5 fu cf (vN (uN i % 8)) a1 h n k := by
  rw [s5_t, rm5_eq, s5_t]
  exact t5_n _ _ _ a1 _ _ _ _ _
theorem wv2 (s : CF → V → V → H → Id → KV → R) (cf : CF) (a0 a1 : V) (h : H) (n : Id) (k : KV) : w2 s cf [a0, a1] h n k = s cf a0 a1 h n k := rfl
theorem s5_c (cf : CF) (b1 : Bool) (i : Int) : w2 (s5 fuX) cf [(.i .i64 i), (.b b1)] .e n0 kEnd = w2 (s5 fuX) cf [vN (uN i % 8), .b b1] .e n0 kEnd :=
  (wv2 (s5 fuX) cf _ _ .e n0 kEnd).trans ((s5_r fuX cf (.b b1) i .e n0 kEnd).trans (wv2 (s5 fuX) cf _ _ .e n0 kEnd).symm)
end Go.Proofs.Nw.X
end
section
/- printed by xl.py: function 5 returns true. -/
open Go Go.RowKit Go.Proofs
set_option maxRecDepth 100000
namespace Go.Proofs.Nw.X
open Go.Proofs.Nw.K
theorem all5 (b1 : Bool) (r : Nat) (hr : r < 8) : cfY 200 5 [vN r, .b b1] .e n0 kEnd = some (.b true) := by
  match r, b1, hr with
  | 0, true, _ => exact c5_0_t
  | 0, false, _ => exact c5_0_f
  | 1, true, _ => exact c5_1_t
  | 1, false, _ => exact c5_1_f
  | 2, true, _ => exact c5_2_t
  | 2, false, _ => exact c5_2_f
  | 3, true, _ => exact c5_3_t
  | 3, false, _ => exact c5_3_f
  | 4, true, _ => exact c5_4_t
  | 4, false, _ => exact c5_4_f
  | 5, true, _ => exact c5_5_t
  | 5, false, _ => exact c5_5_f
  | 6, true, _ => exact c5_6_t
  | 6, false, _ => exact c5_6_f
  | 7, true, _ => exact c5_7_t
  | 7, false, _ => exact c5_7_f
  | r + 8, _, hr => exact absurd hr (by omega)
theorem run5 (b1 : Bool) (i : Int) {W : World} (hG : Gi W) : Calls Tryz.prog 5 #[.int .i64 i, .bool b1] W fun e W' => e = .returned (.bool true) ∧ Below W.heap.size W W' := by
  have e : ∀ vs h n k, cfY 200 5 vs h n k = w2 (s5 fuX) (cfY 199) vs h n k := fun vs h n k => by kernel_rfl
  refine law_run (us := [.int .i64 i, .bool b1]) (vs := [(.i .i64 i), (.b b1)]) (by kernel_rfl) (cfY_ok 200 5) ?_ hG ?_
  · rw [e, s5_c, ← e]; exact all5 b1 _ (Nat.mod_lt _ (by omega))
  · exact ⟨_, _, rfl, rfl, ⟨_, _, rfl, rfl, rfl⟩⟩
end Go.Proofs.Nw.X
end
