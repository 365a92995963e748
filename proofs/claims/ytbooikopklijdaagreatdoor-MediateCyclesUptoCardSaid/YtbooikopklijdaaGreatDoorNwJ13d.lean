/- Bundle: NwX13D0, NwX13D. -/
import Derived.Test.YtbooikopklijdaaGreatDoorNwJ14
import Derived.Test.YtbooikopklijdaaGreatDoorNwJ13c1
import Derived.Test.YtbooikopklijdaaGreatDoorNwJ13c2
import Derived.Test.YtbooikopklijdaaGreatDoorNwJ13c3
set_option linter.constructorNameAsVariable false
set_option linter.unusedVariables false
set_option linter.unusedSimpArgs false
set_option linter.unusedSectionVars false
section
/- printed by xl.py: function 13 counts the rest by 6. -/
open Go Go.RowKit Go.Proofs
set_option linter.unusedVariables false
set_option maxRecDepth 100000
namespace Go.Proofs.Nw.X
open Go.Proofs.Nw.K
theorem conv_u (i : Int) (h : H) (n : Id) (k : KV) : evConv2 tbx mtab 3 22 (.i .i64 i) h n k = k (.i .u64 (.ofNat (uN i))) h n := by
  have e : evConv2 tbx mtab 3 22 (.i .i64 i) h n k = fI (wrapK .u64 i) fun r => k (.i .u64 r) h n := by kernel_rfl
  rw [e, fI_eq]
  cases i <;> rfl
theorem rem_u (a : Nat) (kk : KP) : evBin2 tbx .rem 22 (.i .u64 (.ofNat a)) (.i .u64 6) kk = kk (.i .u64 (.ofNat (a % 6))) := by
  have e : evBin2 tbx .rem 22 (.i .u64 (.ofNat a)) (.i .u64 6) kk = fI (Int.tmod (.ofNat a) (.ofNat 6)) fun r => kk (.i .u64 r) := by kernel_rfl
  rw [e, fI_eq]
  rfl
noncomputable def t13 (rm : H → Id → KV → R) (fu : Nat) (cf : CF) (a0 a1 : V) (h : H) (n : Id) (k : KV) : R :=
 rm h n fun v2 h n =>
 evConv2 tbx mtab 22 3 v2 h n fun v3 h n =>
 evBin2 tbx .add 3 (.i .i64 2) v3 fun v4 =>
 jp (fun (s5 : VT [0, 5]) h n =>
 pc s5 fun v7 s8 =>
 pc s8 fun v9 s10 =>
 cf 19 [v9] h n fun v11 h n =>
 evExt 0 v11 fun v12 =>
 evExt 1 v11 fun v13 =>
 evIa tbx 28 v9 (.i .i64 0) fun v14 =>
 evFa tbx 37 0 v14 fun v15 =>
 evLoad tbx 24 v15 h fun v16 =>
 cf 29 [v12, v16] h n fun v17 h n =>
 evExt 0 v17 fun v18 =>
 evExt 1 v17 fun v19 =>
 evAlloc tbx 66 h n fun v20 h n =>
 evStore tbx 66 v20 v18 h n fun _ h n =>
 cf 30 [] h n fun v21 h n =>
 evUn .not v21 fun v22 =>
 jp (fun (v23 : V) h n =>
 jp (fun (v25 : V) h n =>
 evPick v22 (.b true) v25 fun v27 =>
 jp (fun (v28 : V) h n =>
 jp (fun (v30 : V) h n =>
 evPick v27 (.b true) v30 fun v32 =>
 jp (fun (v33 : V) h n =>
 jp (fun (v35 : V) h n =>
 jp (fun (v37 : V) h n =>
 jp (fun (v39 : V) h n =>
 jp (fun (v41 : V) h n =>
 evPick v32 (.b true) v41 fun v43 =>
 brB v43 (
 k (.b false) h n) (
 jp (fun (s44 : VT []) h n =>
 k (.b true) h n) fun kk45 =>
 lpC [0, 10, 12] (fun lo47 s46 h n =>
 pc s46 fun v48 s49 =>
 pc s49 fun v50 s51 =>
 pc s51 fun v52 s53 =>
 evBin2 tbx .lss 3 v52 v48 fun v54 =>
 brB v54 (
 jp (fun (s55 : VT [0, 10, 12]) h n =>
 pc s55 fun v57 s58 =>
 pc s58 fun v59 s60 =>
 pc s60 fun v61 s62 =>
 evBin2 tbx .add 3 v61 (.i .i64 1) fun v63 =>
 lo47 (v57, v59, v63, ()) h n) fun kk56 =>
 jp (fun (s64 : VT [0, 10, 12, 13]) h n =>
 pc s64 fun v66 s67 =>
 pc s67 fun v68 s69 =>
 pc s69 fun v70 s71 =>
 pc s71 fun v72 s73 =>
 evFa tbx 66 1 v68 fun v74 =>
 evLoad tbx 64 v74 h fun v75 =>
 evIa tbx 64 v75 v70 fun v76 =>
 evFa tbx 70 3 v76 fun v77 =>
 evLoad tbx 3 v77 h fun v78 =>
 evBin2 tbx .neq 3 v78 v72 fun v79 =>
 jp (fun (v80 : V) h n =>
 jp (fun (v82 : V) h n =>
 jp (fun (v84 : V) h n =>
 jp (fun (v86 : V) h n =>
 jp (fun (v88 : V) h n =>
 jp (fun (v90 : V) h n =>
 jp (fun (v92 : V) h n =>
 jp (fun (v94 : V) h n =>
 jp (fun (v96 : V) h n =>
 evPick v79 (.b true) v96 fun v98 =>
 jp (fun (v99 : V) h n =>
 jp (fun (v101 : V) h n =>
 jp (fun (v103 : V) h n =>
 jp (fun (v105 : V) h n =>
 jp (fun (v107 : V) h n =>
 jp (fun (v109 : V) h n =>
 jp (fun (v111 : V) h n =>
 evPick v98 (.b true) v111 fun v113 =>
 brB v113 (
 k (.b false) h n) (
 kk56 (v66, v68, v70, ()) h n)) fun kk112 =>
 gdB v98 false ((evBin2 tbx .neq 3 v109 (.i .i64 0) fun v => kk112 v h n)) (kk112 (.tp []) h n)) fun kk110 =>
 gdB v98 false ((evLoad tbx 3 v107 h fun v => kk110 v h n)) (kk110 (.tp []) h n)) fun kk108 =>
 gdB v98 false ((evFa tbx 70 1 v105 fun v => kk108 v h n)) (kk108 (.tp []) h n)) fun kk106 =>
 gdB v98 false ((evIa tbx 64 v101 v103 fun v => kk106 v h n)) (kk106 (.tp []) h n)) fun kk104 =>
 gdB v98 false (kk104 v70 h n) (kk104 (.tp []) h n)) fun kk102 =>
 gdB v98 false ((evLoad tbx 64 v99 h fun v => kk102 v h n)) (kk102 (.tp []) h n)) fun kk100 =>
 gdB v98 false ((evFa tbx 66 1 v68 fun v => kk100 v h n)) (kk100 (.tp []) h n)) fun kk97 =>
 gdB v79 false ((evBin2 tbx .neq 3 v90 v94 fun v => kk97 v h n)) (kk97 (.tp []) h n)) fun kk95 =>
 gdB v79 false ((evBin2 tbx .sub 3 v92 (.i .i64 1) fun v => kk95 v h n)) (kk95 (.tp []) h n)) fun kk93 =>
 gdB v79 false (kk93 v70 h n) (kk93 (.tp []) h n)) fun kk91 =>
 gdB v79 false ((evLoad tbx 3 v88 h fun v => kk91 v h n)) (kk91 (.tp []) h n)) fun kk89 =>
 gdB v79 false ((evFa tbx 70 0 v86 fun v => kk89 v h n)) (kk89 (.tp []) h n)) fun kk87 =>
 gdB v79 false ((evIa tbx 64 v82 v84 fun v => kk87 v h n)) (kk87 (.tp []) h n)) fun kk85 =>
 gdB v79 false (kk85 v70 h n) (kk85 (.tp []) h n)) fun kk83 =>
 gdB v79 false ((evLoad tbx 64 v80 h fun v => kk83 v h n)) (kk83 (.tp []) h n)) fun kk81 =>
 gdB v79 false ((evFa tbx 66 1 v68 fun v => kk81 v h n)) (kk81 (.tp []) h n)) fun kk65 =>
 evBin2 tbx .sub 3 v48 (.i .i64 1) fun v114 =>
 evBin2 tbx .eql 3 v52 v114 fun v115 =>
 brB v115 (
 kk65 (v48, v50, v52, (.i .i64 4), ()) h n) (
 kk65 (v48, v50, v52, (.i .i64 1), ()) h n)) (
 kk45 (()) h n)) fu (v7, v20, (.i .i64 0), ()) h n)) fun kk42 =>
 gdB v32 false ((evBin2 tbx .neq 3 v37 v39 fun v => kk42 v h n)) (kk42 (.tp []) h n)) fun kk40 =>
 gdB v32 false (kk40 v7 h n) (kk40 (.tp []) h n)) fun kk38 =>
 gdB v32 false ((evLen tbx 64 v35 fun v => kk38 v h n)) (kk38 (.tp []) h n)) fun kk36 =>
 gdB v32 false ((evLoad tbx 64 v33 h fun v => kk36 v h n)) (kk36 (.tp []) h n)) fun kk34 =>
 gdB v32 false ((evFa tbx 66 1 v20 fun v => kk34 v h n)) (kk34 (.tp []) h n)) fun kk31 =>
 gdB v27 false ((evBin2 tbx .neq 33 v28 (.i .i64 0) fun v => kk31 v h n)) (kk31 (.tp []) h n)) fun kk29 =>
 gdB v27 false (kk29 v19 h n) (kk29 (.tp []) h n)) fun kk26 =>
 gdB v22 false ((evBin2 tbx .neq 33 v23 (.i .i64 0) fun v => kk26 v h n)) (kk26 (.tp []) h n)) fun kk24 =>
 gdB v22 false (kk24 v13 h n) (kk24 (.tp []) h n)) fun kk6 =>
 lpC [0, 1, 5, 6] (fun lo117 s116 h n =>
 pc s116 fun v118 s119 =>
 pc s119 fun v120 s121 =>
 pc s121 fun v122 s123 =>
 pc s123 fun v124 s125 =>
 evBin2 tbx .lss 3 v124 v118 fun v126 =>
 brB v126 (
 jp (fun (s127 : VT [0, 1, 5, 6]) h n =>
 pc s127 fun v129 s130 =>
 pc s130 fun v131 s132 =>
 pc s132 fun v133 s134 =>
 pc s134 fun v135 s136 =>
 evBin2 tbx .add 3 v135 (.i .i64 1) fun v137 =>
 lo117 (v129, v131, v133, v137, ()) h n) fun kk128 =>
 evBin2 tbx .add 3 v124 (.i .i64 1) fun v138 =>
 evBin2 tbx .rem 3 v138 v118 fun v139 =>
 cf 16 [v139] h n fun v140 h n =>
 evBin2 tbx .add 9 (.s 1 112) v140 fun v141 =>
 cf 28 [v141, (.s 1 49)] h n fun v142 h n =>
 evAlloc tbx 51 h n fun v143 h n =>
 evStore tbx 51 v143 v142 h n fun _ h n =>
 jp (fun (s144 : VT [0, 1, 5, 6, 7]) h n =>
 pc s144 fun v146 s147 =>
 pc s147 fun v148 s149 =>
 pc s149 fun v150 s151 =>
 pc s151 fun v152 s153 =>
 pc s153 fun v154 s155 =>
 evLoad tbx 51 v154 h fun v156 =>
 alB n fun n' => sliA tbx 30 1 [(0, v156)] fun x mk => 
 (fun (v157 : V) h n =>
 evLoad tbx 51 v154 h fun w164 => cond (eqV 6 w164 v156) (
 ckO (vId v157) h fun id x' => sliA tbx 30 1 [(0, v156)] fun x mk => cond (eqO x' x) (cond (eqV 6 (mk id) v157) (
 cf 16 [v152] h n fun v158 h n =>
 evBin2 tbx .add 9 (.s 1 112) v158 fun v159 =>
 evLoad tbx 51 v154 h fun w163 => cond (eqV 6 w163 v156) (
 ckO (vId v157) h fun id x' => sliA tbx 30 1 [(0, v156)] fun x mk => cond (eqO x' x) (cond (eqV 6 (mk id) v157) (
 cf 27 [v159, (.s 1 49), v157] h n fun v160 h n =>
 alB n fun n' => sliA tbx 28 1 [(0, v160)] fun x mk => 
 (fun (v161 : V) h n =>
 ckO (vId v161) h fun id x' => sliA tbx 28 1 [(0, v160)] fun x mk => cond (eqO x' x) (cond (eqV 6 (mk id) v161) (
 evApp tbx 28 28 v150 v161 h n fun v162 h n =>
 kk128 (v146, v148, v162, v152, ()) h n) none) none) (mk n) (hset x n h) n') none) none) none) none) none) none) (mk n) (hset x n h) n') fun kk145 =>
 evBin2 tbx .sub 3 v118 (.i .i64 1) fun v165 =>
 evBin2 tbx .eql 3 v124 v165 fun v166 =>
 jp (fun (v167 : V) h n =>
 evPick v166 v167 (.b false) fun v169 =>
 brB v169 (
 evFa tbx 51 2 v143 fun v170 =>
 evStore tbx 9 v170 (.s 1 50) h n fun _ h n =>
 kk145 (v118, v120, v122, v124, v143, ()) h n) (
 kk145 (v118, v120, v122, v124, v143, ()) h n)) fun kk168 =>
 gdB v166 true (kk168 v120 h n) (kk168 (.tp []) h n)) (
 kk6 (v118, v122, ()) h n)) fu (v4, a1, .ns, (.i .i64 0), ()) h n
noncomputable def rm13 (i : Int) : H → Id → KV → R := fun h n k => evConv2 tbx mtab 3 22 (.i .i64 i) h n fun v h n => evBin2 tbx .rem 22 v (.i .u64 6) fun v => k v h n
theorem rm13_eq (i : Int) : rm13 i = rm13 (.ofNat (uN i % 6)) := by
  funext h n k
  unfold rm13
  rw [conv_u, conv_u, rem_u, rem_u, uN_nat (Nat.lt_trans (Nat.mod_lt _ (by omega)) (by omega : 6 < 18446744073709551616)), Nat.mod_mod]
theorem s13_t (fu : Nat) (cf : CF) (a1 : V) (i : Int) (h : H) (n : Id) (k : KV) : s13 fu cf (.i .i64 i) a1 h n k = t13 (rm13 i) fu cf (.i .i64 i) a1 h n k := by kernel_rfl
theorem t13_n (rm : H → Id → KV → R) (fu : Nat) (cf : CF) (a1 : V) (x y : V) (h : H) (n : Id) (k : KV) : t13 rm fu cf x a1 h n k = t13 rm fu cf y a1 h n k := by kernel_rfl
theorem s13_r (fu : Nat) (cf : CF) (a1 : V) (i : Int) (h : H) (n : Id) (k : KV) : s13 fu cf (.i .i64 i) a1 h n k = s13 fu cf (vN (uN i % 6)) a1 h n k := by
  rw [s13_t, rm13_eq, s13_t]
  exact t13_n _ _ _ a1 _ _ _ _ _
theorem wv2 (s : CF → V → V → H → Id → KV → R) (cf : CF) (a0 a1 : V) (h : H) (n : Id) (k : KV) : w2 s cf [a0, a1] h n k = s cf a0 a1 h n k := rfl
theorem s13_c (cf : CF) (b1 : Bool) (i : Int) : w2 (s13 fuX) cf [(.i .i64 i), (.b b1)] .e n0 kEnd = w2 (s13 fuX) cf [vN (uN i % 6), .b b1] .e n0 kEnd :=
  (wv2 (s13 fuX) cf _ _ .e n0 kEnd).trans ((s13_r fuX cf (.b b1) i .e n0 kEnd).trans (wv2 (s13 fuX) cf _ _ .e n0 kEnd).symm)
end Go.Proofs.Nw.X
end
section
/- printed by xl.py: function 13 returns true. -/
open Go Go.RowKit Go.Proofs
set_option maxRecDepth 100000
namespace Go.Proofs.Nw.X
open Go.Proofs.Nw.K
theorem all13 (b1 : Bool) (r : Nat) (hr : r < 6) : cfY 200 13 [vN r, .b b1] .e n0 kEnd = some (.b true) := by
  match r, b1, hr with
  | 0, true, _ => exact c13_0_t
  | 0, false, _ => exact c13_0_f
  | 1, true, _ => exact c13_1_t
  | 1, false, _ => exact c13_1_f
  | 2, true, _ => exact c13_2_t
  | 2, false, _ => exact c13_2_f
  | 3, true, _ => exact c13_3_t
  | 3, false, _ => exact c13_3_f
  | 4, true, _ => exact c13_4_t
  | 4, false, _ => exact c13_4_f
  | 5, true, _ => exact c13_5_t
  | 5, false, _ => exact c13_5_f
  | r + 6, _, hr => exact absurd hr (by omega)
theorem run13 (b1 : Bool) (i : Int) {W : World} (hG : Gi W) : Calls Tryz.prog 13 #[.int .i64 i, .bool b1] W fun e W' => e = .returned (.bool true) ∧ Below W.heap.size W W' := by
  have e : ∀ vs h n k, cfY 200 13 vs h n k = w2 (s13 fuX) (cfY 199) vs h n k := fun vs h n k => by kernel_rfl
  refine law_run (us := [.int .i64 i, .bool b1]) (vs := [(.i .i64 i), (.b b1)]) (by kernel_rfl) (cfY_ok 200 13) ?_ hG ?_
  · rw [e, s13_c, ← e]; exact all13 b1 _ (Nat.mod_lt _ (by omega))
  · exact ⟨_, _, rfl, rfl, ⟨_, _, rfl, rfl, rfl⟩⟩
end Go.Proofs.Nw.X
end
