/- Bundle: NwX12D0, NwX12D. -/
import Derived.Test.YtbooikopklijdaaGreatDoorNwJ14
import Derived.Test.YtbooikopklijdaaGreatDoorNwJ12c1
import Derived.Test.YtbooikopklijdaaGreatDoorNwJ12c2
set_option linter.constructorNameAsVariable false
set_option linter.unusedVariables false
set_option linter.unusedSimpArgs false
set_option linter.unusedSectionVars false
section
/- printed by xl.py: function 12 counts the rest by 3. -/
open Go Go.RowKit Go.Proofs
set_option linter.unusedVariables false
set_option maxRecDepth 100000
namespace Go.Proofs.Nw.X
open Go.Proofs.Nw.K
theorem conv_u (i : Int) (h : H) (n : Id) (k : KV) : evConv2 tbx mtab 3 22 (.i .i64 i) h n k = k (.i .u64 (.ofNat (uN i))) h n := by
  have e : evConv2 tbx mtab 3 22 (.i .i64 i) h n k = fI (wrapK .u64 i) fun r => k (.i .u64 r) h n := by kernel_rfl
  rw [e, fI_eq]
  cases i <;> rfl
theorem rem_u (a : Nat) (kk : KP) : evBin2 tbx .rem 22 (.i .u64 (.ofNat a)) (.i .u64 3) kk = kk (.i .u64 (.ofNat (a % 3))) := by
  have e : evBin2 tbx .rem 22 (.i .u64 (.ofNat a)) (.i .u64 3) kk = fI (Int.tmod (.ofNat a) (.ofNat 3)) fun r => kk (.i .u64 r) := by kernel_rfl
  rw [e, fI_eq]
  rfl
noncomputable def t12 (rm : H → Id → KV → R) (fu : Nat) (cf : CF) (a0 a1 : V) (h : H) (n : Id) (k : KV) : R :=
 rm h n fun v2 h n =>
 evConv2 tbx mtab 22 3 v2 h n fun v3 h n =>
 evBin2 tbx .add 3 (.i .i64 2) v3 fun v4 =>
 cf 16 [v4] h n fun v5 h n =>
 cf 28 [(.s 1 99), v5] h n fun v6 h n =>
 evBuildSl tbx 30 1 [(0, v6)] h n fun v7 h n =>
 cf 28 [(.s 1 98), (.s 1 49)] h n fun v8 h n =>
 evBuildSl tbx 30 1 [(0, v8)] h n fun v9 h n =>
 evBuild tbx 32 [(1, (.s 1 103)), (2, (.s 1 97)), (3, (.s 1 49)), (6, v7), (7, v9)] fun v10 =>
 evAlloc tbx 32 h n fun v11 h n =>
 evStore tbx 32 v11 v10 h n fun _ h n =>
 jp (fun (s12 : VT [1, 5, 6]) h n =>
 pc s12 fun v14 s15 =>
 pc s15 fun v16 s17 =>
 pc s17 fun v18 s19 =>
 evLoad tbx 32 v18 h fun v20 =>
 cf 18 [v20] h n fun v21 h n =>
 evExt 0 v21 fun v22 =>
 evExt 1 v21 fun v23 =>
 evBuild tbx 24 [(0, (.s 1 103)), (1, (.s 1 97)), (2, (.s 1 49))] fun v24 =>
 evBuild tbx 37 [(0, v24), (1, v22)] fun v25 =>
 cf 28 [(.s 1 99), (.s 1 49)] h n fun v26 h n =>
 evBuildSl tbx 30 1 [(0, v26)] h n fun v27 h n =>
 cf 27 [(.s 1 98), (.s 1 49), v27] h n fun v28 h n =>
 evBuildSl tbx 28 2 [(0, v25), (1, v28)] h n fun v29 h n =>
 jp (fun (s30 : VT [1, 5, 9]) h n =>
 pc s30 fun v32 s33 =>
 pc s33 fun v34 s35 =>
 pc s35 fun v36 s37 =>
 cf 19 [v36] h n fun v38 h n =>
 evExt 0 v38 fun v39 =>
 evExt 1 v38 fun v40 =>
 evIa tbx 28 v36 (.i .i64 0) fun v41 =>
 evFa tbx 37 0 v41 fun v42 =>
 evLoad tbx 24 v42 h fun v43 =>
 cf 29 [v39, v43] h n fun v44 h n =>
 evExt 0 v44 fun v45 =>
 evExt 1 v44 fun v46 =>
 evAlloc tbx 66 h n fun v47 h n =>
 evStore tbx 66 v47 v45 h n fun _ h n =>
 cf 30 [] h n fun v48 h n =>
 evUn .not v48 fun v49 =>
 jp (fun (v50 : V) h n =>
 jp (fun (v52 : V) h n =>
 evPick v49 (.b true) v52 fun v54 =>
 jp (fun (v55 : V) h n =>
 jp (fun (v57 : V) h n =>
 evPick v54 (.b true) v57 fun v59 =>
 brB v59 (
 k (.b false) h n) (
 evFa tbx 66 1 v47 fun v60 =>
 evLoad tbx 64 v60 h fun v61 =>
 evLen tbx 64 v61 fun v62 =>
 evBin2 tbx .sub 3 v62 (.i .i64 1) fun v63 =>
 brB v32 (
 evBin2 tbx .eql 3 v63 (.i .i64 2) fun v64 =>
 jp (fun (v65 : V) h n =>
 jp (fun (v67 : V) h n =>
 jp (fun (v69 : V) h n =>
 jp (fun (v71 : V) h n =>
 jp (fun (v73 : V) h n =>
 jp (fun (v75 : V) h n =>
 jp (fun (v77 : V) h n =>
 evPick v64 v77 (.b false) fun v79 =>
 jp (fun (v80 : V) h n =>
 jp (fun (v82 : V) h n =>
 jp (fun (v84 : V) h n =>
 jp (fun (v86 : V) h n =>
 jp (fun (v88 : V) h n =>
 jp (fun (v90 : V) h n =>
 evPick v79 v90 (.b false) fun v92 =>
 jp (fun (v93 : V) h n =>
 jp (fun (v95 : V) h n =>
 jp (fun (v97 : V) h n =>
 jp (fun (v99 : V) h n =>
 jp (fun (v101 : V) h n =>
 jp (fun (v103 : V) h n =>
 jp (fun (v105 : V) h n =>
 jp (fun (v107 : V) h n =>
 evPick v92 v107 (.b false) fun v109 =>
 jp (fun (v110 : V) h n =>
 jp (fun (v112 : V) h n =>
 jp (fun (v114 : V) h n =>
 jp (fun (v116 : V) h n =>
 jp (fun (v118 : V) h n =>
 jp (fun (v120 : V) h n =>
 evPick v109 v120 (.b false) fun v122 =>
 k v122 h n) fun kk121 =>
 gdB v109 true ((evBin2 tbx .eql 3 v118 (.i .i64 2) fun v => kk121 v h n)) (kk121 (.tp []) h n)) fun kk119 =>
 gdB v109 true ((evLoad tbx 3 v116 h fun v => kk119 v h n)) (kk119 (.tp []) h n)) fun kk117 =>
 gdB v109 true ((evFa tbx 70 3 v114 fun v => kk117 v h n)) (kk117 (.tp []) h n)) fun kk115 =>
 gdB v109 true ((evIa tbx 64 v112 (.i .i64 2) fun v => kk115 v h n)) (kk115 (.tp []) h n)) fun kk113 =>
 gdB v109 true ((evLoad tbx 64 v110 h fun v => kk113 v h n)) (kk113 (.tp []) h n)) fun kk111 =>
 gdB v109 true ((evFa tbx 66 1 v47 fun v => kk111 v h n)) (kk111 (.tp []) h n)) fun kk108 =>
 gdB v92 true ((evBin2 tbx .eql 9 v103 v105 fun v => kk108 v h n)) (kk108 (.tp []) h n)) fun kk106 =>
 gdB v92 true (kk106 v34 h n) (kk106 (.tp []) h n)) fun kk104 =>
 gdB v92 true ((evLoad tbx 9 v101 h fun v => kk104 v h n)) (kk104 (.tp []) h n)) fun kk102 =>
 gdB v92 true ((evFa tbx 51 2 v99 fun v => kk102 v h n)) (kk102 (.tp []) h n)) fun kk100 =>
 gdB v92 true ((evFa tbx 70 2 v97 fun v => kk100 v h n)) (kk100 (.tp []) h n)) fun kk98 =>
 gdB v92 true ((evIa tbx 64 v95 (.i .i64 2) fun v => kk98 v h n)) (kk98 (.tp []) h n)) fun kk96 =>
 gdB v92 true ((evLoad tbx 64 v93 h fun v => kk96 v h n)) (kk96 (.tp []) h n)) fun kk94 =>
 gdB v92 true ((evFa tbx 66 1 v47 fun v => kk94 v h n)) (kk94 (.tp []) h n)) fun kk91 =>
 gdB v79 true ((evBin2 tbx .eql 3 v88 (.i .i64 1) fun v => kk91 v h n)) (kk91 (.tp []) h n)) fun kk89 =>
 gdB v79 true ((evLoad tbx 3 v86 h fun v => kk89 v h n)) (kk89 (.tp []) h n)) fun kk87 =>
 gdB v79 true ((evFa tbx 70 3 v84 fun v => kk87 v h n)) (kk87 (.tp []) h n)) fun kk85 =>
 gdB v79 true ((evIa tbx 64 v82 (.i .i64 1) fun v => kk85 v h n)) (kk85 (.tp []) h n)) fun kk83 =>
 gdB v79 true ((evLoad tbx 64 v80 h fun v => kk83 v h n)) (kk83 (.tp []) h n)) fun kk81 =>
 gdB v79 true ((evFa tbx 66 1 v47 fun v => kk81 v h n)) (kk81 (.tp []) h n)) fun kk78 =>
 gdB v64 true ((evBin2 tbx .eql 9 v75 (.s 1 49) fun v => kk78 v h n)) (kk78 (.tp []) h n)) fun kk76 =>
 gdB v64 true ((evLoad tbx 9 v73 h fun v => kk76 v h n)) (kk76 (.tp []) h n)) fun kk74 =>
 gdB v64 true ((evFa tbx 51 2 v71 fun v => kk74 v h n)) (kk74 (.tp []) h n)) fun kk72 =>
 gdB v64 true ((evFa tbx 70 2 v69 fun v => kk72 v h n)) (kk72 (.tp []) h n)) fun kk70 =>
 gdB v64 true ((evIa tbx 64 v67 (.i .i64 1) fun v => kk70 v h n)) (kk70 (.tp []) h n)) fun kk68 =>
 gdB v64 true ((evLoad tbx 64 v65 h fun v => kk68 v h n)) (kk68 (.tp []) h n)) fun kk66 =>
 gdB v64 true ((evFa tbx 66 1 v47 fun v => kk66 v h n)) (kk66 (.tp []) h n)) (
 evBin2 tbx .eql 3 v63 (.i .i64 1) fun v123 =>
 jp (fun (v124 : V) h n =>
 jp (fun (v126 : V) h n =>
 jp (fun (v128 : V) h n =>
 jp (fun (v130 : V) h n =>
 jp (fun (v132 : V) h n =>
 jp (fun (v134 : V) h n =>
 jp (fun (v136 : V) h n =>
 jp (fun (v138 : V) h n =>
 evPick v123 v138 (.b false) fun v140 =>
 jp (fun (v141 : V) h n =>
 jp (fun (v143 : V) h n =>
 jp (fun (v145 : V) h n =>
 jp (fun (v147 : V) h n =>
 jp (fun (v149 : V) h n =>
 jp (fun (v151 : V) h n =>
 evPick v140 v151 (.b false) fun v153 =>
 k v153 h n) fun kk152 =>
 gdB v140 true ((evBin2 tbx .eql 3 v149 (.i .i64 1) fun v => kk152 v h n)) (kk152 (.tp []) h n)) fun kk150 =>
 gdB v140 true ((evLoad tbx 3 v147 h fun v => kk150 v h n)) (kk150 (.tp []) h n)) fun kk148 =>
 gdB v140 true ((evFa tbx 70 3 v145 fun v => kk148 v h n)) (kk148 (.tp []) h n)) fun kk146 =>
 gdB v140 true ((evIa tbx 64 v143 (.i .i64 1) fun v => kk146 v h n)) (kk146 (.tp []) h n)) fun kk144 =>
 gdB v140 true ((evLoad tbx 64 v141 h fun v => kk144 v h n)) (kk144 (.tp []) h n)) fun kk142 =>
 gdB v140 true ((evFa tbx 66 1 v47 fun v => kk142 v h n)) (kk142 (.tp []) h n)) fun kk139 =>
 gdB v123 true ((evBin2 tbx .eql 9 v134 v136 fun v => kk139 v h n)) (kk139 (.tp []) h n)) fun kk137 =>
 gdB v123 true (kk137 v34 h n) (kk137 (.tp []) h n)) fun kk135 =>
 gdB v123 true ((evLoad tbx 9 v132 h fun v => kk135 v h n)) (kk135 (.tp []) h n)) fun kk133 =>
 gdB v123 true ((evFa tbx 51 2 v130 fun v => kk133 v h n)) (kk133 (.tp []) h n)) fun kk131 =>
 gdB v123 true ((evFa tbx 70 2 v128 fun v => kk131 v h n)) (kk131 (.tp []) h n)) fun kk129 =>
 gdB v123 true ((evIa tbx 64 v126 (.i .i64 1) fun v => kk129 v h n)) (kk129 (.tp []) h n)) fun kk127 =>
 gdB v123 true ((evLoad tbx 64 v124 h fun v => kk127 v h n)) (kk127 (.tp []) h n)) fun kk125 =>
 gdB v123 true ((evFa tbx 66 1 v47 fun v => kk125 v h n)) (kk125 (.tp []) h n)))) fun kk58 =>
 gdB v54 false ((evBin2 tbx .neq 33 v55 (.i .i64 0) fun v => kk58 v h n)) (kk58 (.tp []) h n)) fun kk56 =>
 gdB v54 false (kk56 v46 h n) (kk56 (.tp []) h n)) fun kk53 =>
 gdB v49 false ((evBin2 tbx .neq 33 v50 (.i .i64 0) fun v => kk53 v h n)) (kk53 (.tp []) h n)) fun kk51 =>
 gdB v49 false (kk51 v40 h n) (kk51 (.tp []) h n)) fun kk31 =>
 lpC [1, 5, 9, 10] (fun lo155 s154 h n =>
 pc s154 fun v156 s157 =>
 pc s157 fun v158 s159 =>
 pc s159 fun v160 s161 =>
 pc s161 fun v162 s163 =>
 evBin2 tbx .lss 3 v162 (.i .i64 6) fun v164 =>
 brB v164 (
 jp (fun (s165 : VT [1, 5, 9, 10]) h n =>
 pc s165 fun v167 s168 =>
 pc s168 fun v169 s170 =>
 pc s170 fun v171 s172 =>
 pc s172 fun v173 s174 =>
 evBin2 tbx .add 3 v173 (.i .i64 1) fun v175 =>
 lo155 (v167, v169, v171, v175, ()) h n) fun kk166 =>
 cf 16 [v162] h n fun v176 h n =>
 cf 27 [(.s 1 99), v176, .ns] h n fun v177 h n =>
 evBuildSl tbx 28 1 [(0, v177)] h n fun v178 h n =>
 evApp tbx 28 28 v160 v178 h n fun v179 h n =>
 kk166 (v156, v158, v179, v162, ()) h n) (
 kk31 (v156, v158, v160, ()) h n)) fu (v14, v16, v29, (.i .i64 1), ()) h n) fun kk13 =>
 brB a1 (
 evFa tbx 32 7 v11 fun v180 =>
 evLoad tbx 30 v180 h fun v181 =>
 evLoad tbx 30 v180 h fun w188 => cond (eqV 6 w188 v181) (
 cf 28 [(.s 1 99), (.s 1 49)] h n fun v182 h n =>
 evLoad tbx 30 v180 h fun w187 => cond (eqV 6 w187 v181) (
 evBuildSl tbx 30 1 [(0, v182)] h n fun v183 h n =>
 evLoad tbx 30 v180 h fun w186 => cond (eqV 6 w186 v181) (
 evApp tbx 30 30 v181 v183 h n fun v184 h n =>
 evFa tbx 32 7 v11 fun v185 =>
 evStore tbx 30 v185 v184 h n fun _ h n =>
 kk13 (a1, v5, v11, ()) h n) none) none) none) (
 kk13 (a1, v5, v11, ()) h n)
noncomputable def rm12 (i : Int) : H → Id → KV → R := fun h n k => evConv2 tbx mtab 3 22 (.i .i64 i) h n fun v h n => evBin2 tbx .rem 22 v (.i .u64 3) fun v => k v h n
theorem rm12_eq (i : Int) : rm12 i = rm12 (.ofNat (uN i % 3)) := by
  funext h n k
  unfold rm12
  rw [conv_u, conv_u, rem_u, rem_u, uN_nat (Nat.lt_trans (Nat.mod_lt _ (by omega)) (by omega : 3 < 18446744073709551616)), Nat.mod_mod]
theorem s12_t (fu : Nat) (cf : CF) (a1 : V) (i : Int) (h : H) (n : Id) (k : KV) : s12 fu cf (.i .i64 i) a1 h n k = t12 (rm12 i) fu cf (.i .i64 i) a1 h n k := by kernel_rfl
theorem t12_n (rm : H → Id → KV → R) (fu : Nat) (cf : CF) (a1 : V) (x y : V) (h : H) (n : Id) (k : KV) : t12 rm fu cf x a1 h n k = t12 rm fu cf y a1 h n k := by kernel_rfl
theorem s12_r (fu : Nat) (cf : CF) (a1 : V) (i : Int) (h : H) (n : Id) (k : KV) : s12 fu cf (.i .i64 i) a1 h n k = s12 fu cf (vN (uN i % 3)) a1 h n k := by
  rw [s12_t, rm12_eq, s12_t]
  exact t12_n _ _ _ a1 _ _ _ _ _
theorem s12_c (cf : CF) (b1 : Bool) (i : Int) : w2 (s12 fuX) cf [(.i .i64 i), (.b b1)] .e n0 kEnd = w2 (s12 fuX) cf [vN (uN i % 3), .b b1] .e n0 kEnd := s12_r fuX cf (.b b1) i .e n0 kEnd
end Go.Proofs.Nw.X
end
section
/- printed by xl.py: function 12 returns true. -/
open Go Go.RowKit Go.Proofs
set_option maxRecDepth 100000
namespace Go.Proofs.Nw.X
open Go.Proofs.Nw.K
theorem all12 (b1 : Bool) (r : Nat) (hr : r < 3) : cfX 200 12 [vN r, .b b1] .e n0 kEnd = some (.b true) := by
  match r, b1, hr with
  | 0, true, _ => exact c12_0_t
  | 0, false, _ => exact c12_0_f
  | 1, true, _ => exact c12_1_t
  | 1, false, _ => exact c12_1_f
  | 2, true, _ => exact c12_2_t
  | 2, false, _ => exact c12_2_f
  | r + 3, _, hr => exact absurd hr (by omega)
theorem run12 (b1 : Bool) (i : Int) {W : World} (hG : Gi W) : Calls Tryz.prog 12 #[.int .i64 i, .bool b1] W fun e W' => e = .returned (.bool true) ∧ Below W.heap.size W W' := by
  have e : ∀ vs h n k, cfX 200 12 vs h n k = w2 (s12 fuX) (cfX 199) vs h n k := fun vs h n k => by kernel_rfl
  refine law_run (us := [.int .i64 i, .bool b1]) (vs := [(.i .i64 i), (.b b1)]) (by kernel_rfl) (cfX_ok 200 12) ?_ hG ?_
  · rw [e, s12_c, ← e]; exact all12 b1 _ (Nat.mod_lt _ (by omega))
  · exact ⟨_, _, rfl, rfl, ⟨_, _, rfl, rfl, rfl⟩⟩
end Go.Proofs.Nw.X
end
