/- Bundle: NwX3D0, NwX3D. -/
import Derived.Test.YtbooikopklijdaaGreatDoorNwU11
import Derived.Test.YtbooikopklijdaaGreatDoorNwU3c1
import Derived.Test.YtbooikopklijdaaGreatDoorNwU3c2
import Derived.Test.YtbooikopklijdaaGreatDoorNwU3c3
import Derived.Test.YtbooikopklijdaaGreatDoorNwU3c4
import Derived.Test.YtbooikopklijdaaGreatDoorNwU3c5
import Derived.Test.YtbooikopklijdaaGreatDoorNwU3c6
import Derived.Test.YtbooikopklijdaaGreatDoorNwU3c7
import Derived.Test.YtbooikopklijdaaGreatDoorNwU3c8
import Derived.Test.YtbooikopklijdaaGreatDoorNwU3c9
import Derived.Test.YtbooikopklijdaaGreatDoorNwU3c10
import Derived.Test.YtbooikopklijdaaGreatDoorNwU3c11
import Derived.Test.YtbooikopklijdaaGreatDoorNwU3c12
import Derived.Test.YtbooikopklijdaaGreatDoorNwU3c13
import Derived.Test.YtbooikopklijdaaGreatDoorNwU3c14
import Derived.Test.YtbooikopklijdaaGreatDoorNwU3c15
import Derived.Test.YtbooikopklijdaaGreatDoorNwU3c16
import Derived.Test.YtbooikopklijdaaGreatDoorNwU3c17
import Derived.Test.YtbooikopklijdaaGreatDoorNwU3c18
import Derived.Test.YtbooikopklijdaaGreatDoorNwU3c19
import Derived.Test.YtbooikopklijdaaGreatDoorNwU3c20
import Derived.Test.YtbooikopklijdaaGreatDoorNwU3c21
set_option linter.constructorNameAsVariable false
set_option linter.unusedVariables false
set_option linter.unusedSimpArgs false
set_option linter.unusedSectionVars false
section
/- printed by xl3.py: function 3 counts the rests alone. -/
open Go Go.RowKit Go.Proofs
set_option linter.unusedVariables false
set_option maxRecDepth 100000
namespace Go.Proofs.Nw.X
open Go.Proofs.Nw.K
theorem conv_u (i : Int) (h : H) (n : Id) (k : KV) : evConv2 tbx mtab 3 22 (.i .i64 i) h n k = k (.i .u64 (.ofNat (uN i))) h n := by
  have e : evConv2 tbx mtab 3 22 (.i .i64 i) h n k = fI (wrapK .u64 i) fun r => k (.i .u64 r) h n := by kernel_rfl
  rw [e, fI_eq]
  cases i <;> rfl
theorem conv_b (a : Nat) (ha : a < 9223372036854775808) (h : H) (n : Id) (k : KV) : evConv2 tbx mtab 22 3 (.i .u64 (.ofNat a)) h n k = k (vN a) h n := by
  have e : evConv2 tbx mtab 22 3 (.i .u64 (.ofNat a)) h n k = fI (wrapK .i64 (.ofNat a)) fun r => k (.i .i64 r) h n := by kernel_rfl
  have w : wrapK .i64 (.ofNat a) = .ofNat a := by show cond (Nat.blt a 9223372036854775808) _ _ = _; rw [blt_eq]; simp [ha]
  rw [e, fI_eq, w]
theorem rem_1 (a : Nat) (kk : KP) : evBin2 tbx .rem 22 (.i .u64 (.ofNat a)) (.i .u64 (.ofNat 1)) kk = kk (.i .u64 (.ofNat (a % 1))) := by
  have e : evBin2 tbx .rem 22 (.i .u64 (.ofNat a)) (.i .u64 (.ofNat 1)) kk = fI (Int.tmod (.ofNat a) (.ofNat 1)) fun r => kk (.i .u64 r) := by kernel_rfl
  rw [e, fI_eq]
  rfl
theorem rem_2 (a : Nat) (kk : KP) : evBin2 tbx .rem 22 (.i .u64 (.ofNat a)) (.i .u64 (.ofNat 2)) kk = kk (.i .u64 (.ofNat (a % 2))) := by
  have e : evBin2 tbx .rem 22 (.i .u64 (.ofNat a)) (.i .u64 (.ofNat 2)) kk = fI (Int.tmod (.ofNat a) (.ofNat 2)) fun r => kk (.i .u64 r) := by kernel_rfl
  rw [e, fI_eq]
  rfl
theorem rem_3 (a : Nat) (kk : KP) : evBin2 tbx .rem 22 (.i .u64 (.ofNat a)) (.i .u64 (.ofNat 3)) kk = kk (.i .u64 (.ofNat (a % 3))) := by
  have e : evBin2 tbx .rem 22 (.i .u64 (.ofNat a)) (.i .u64 (.ofNat 3)) kk = fI (Int.tmod (.ofNat a) (.ofNat 3)) fun r => kk (.i .u64 r) := by kernel_rfl
  rw [e, fI_eq]
  rfl
theorem rem_4 (a : Nat) (kk : KP) : evBin2 tbx .rem 22 (.i .u64 (.ofNat a)) (.i .u64 (.ofNat 4)) kk = kk (.i .u64 (.ofNat (a % 4))) := by
  have e : evBin2 tbx .rem 22 (.i .u64 (.ofNat a)) (.i .u64 (.ofNat 4)) kk = fI (Int.tmod (.ofNat a) (.ofNat 4)) fun r => kk (.i .u64 r) := by kernel_rfl
  rw [e, fI_eq]
  rfl
theorem rem_5 (a : Nat) (kk : KP) : evBin2 tbx .rem 22 (.i .u64 (.ofNat a)) (.i .u64 (.ofNat 5)) kk = kk (.i .u64 (.ofNat (a % 5))) := by
  have e : evBin2 tbx .rem 22 (.i .u64 (.ofNat a)) (.i .u64 (.ofNat 5)) kk = fI (Int.tmod (.ofNat a) (.ofNat 5)) fun r => kk (.i .u64 r) := by kernel_rfl
  rw [e, fI_eq]
  rfl
theorem rem_6 (a : Nat) (kk : KP) : evBin2 tbx .rem 22 (.i .u64 (.ofNat a)) (.i .u64 (.ofNat 6)) kk = kk (.i .u64 (.ofNat (a % 6))) := by
  have e : evBin2 tbx .rem 22 (.i .u64 (.ofNat a)) (.i .u64 (.ofNat 6)) kk = fI (Int.tmod (.ofNat a) (.ofNat 6)) fun r => kk (.i .u64 r) := by kernel_rfl
  rw [e, fI_eq]
  rfl
theorem rem_7 (a : Nat) (kk : KP) : evBin2 tbx .rem 22 (.i .u64 (.ofNat a)) (.i .u64 (.ofNat 7)) kk = kk (.i .u64 (.ofNat (a % 7))) := by
  have e : evBin2 tbx .rem 22 (.i .u64 (.ofNat a)) (.i .u64 (.ofNat 7)) kk = fI (Int.tmod (.ofNat a) (.ofNat 7)) fun r => kk (.i .u64 r) := by kernel_rfl
  rw [e, fI_eq]
  rfl
theorem rem_8 (a : Nat) (kk : KP) : evBin2 tbx .rem 22 (.i .u64 (.ofNat a)) (.i .u64 (.ofNat 8)) kk = kk (.i .u64 (.ofNat (a % 8))) := by
  have e : evBin2 tbx .rem 22 (.i .u64 (.ofNat a)) (.i .u64 (.ofNat 8)) kk = fI (Int.tmod (.ofNat a) (.ofNat 8)) fun r => kk (.i .u64 r) := by kernel_rfl
  rw [e, fI_eq]
  rfl
theorem rem_9 (a : Nat) (kk : KP) : evBin2 tbx .rem 22 (.i .u64 (.ofNat a)) (.i .u64 (.ofNat 9)) kk = kk (.i .u64 (.ofNat (a % 9))) := by
  have e : evBin2 tbx .rem 22 (.i .u64 (.ofNat a)) (.i .u64 (.ofNat 9)) kk = fI (Int.tmod (.ofNat a) (.ofNat 9)) fun r => kk (.i .u64 r) := by kernel_rfl
  rw [e, fI_eq]
  rfl
theorem rem_10 (a : Nat) (kk : KP) : evBin2 tbx .rem 22 (.i .u64 (.ofNat a)) (.i .u64 (.ofNat 10)) kk = kk (.i .u64 (.ofNat (a % 10))) := by
  have e : evBin2 tbx .rem 22 (.i .u64 (.ofNat a)) (.i .u64 (.ofNat 10)) kk = fI (Int.tmod (.ofNat a) (.ofNat 10)) fun r => kk (.i .u64 r) := by kernel_rfl
  rw [e, fI_eq]
  rfl
theorem rem_11 (a : Nat) (kk : KP) : evBin2 tbx .rem 22 (.i .u64 (.ofNat a)) (.i .u64 (.ofNat 11)) kk = kk (.i .u64 (.ofNat (a % 11))) := by
  have e : evBin2 tbx .rem 22 (.i .u64 (.ofNat a)) (.i .u64 (.ofNat 11)) kk = fI (Int.tmod (.ofNat a) (.ofNat 11)) fun r => kk (.i .u64 r) := by kernel_rfl
  rw [e, fI_eq]
  rfl
theorem rem_12 (a : Nat) (kk : KP) : evBin2 tbx .rem 22 (.i .u64 (.ofNat a)) (.i .u64 (.ofNat 12)) kk = kk (.i .u64 (.ofNat (a % 12))) := by
  have e : evBin2 tbx .rem 22 (.i .u64 (.ofNat a)) (.i .u64 (.ofNat 12)) kk = fI (Int.tmod (.ofNat a) (.ofNat 12)) fun r => kk (.i .u64 r) := by kernel_rfl
  rw [e, fI_eq]
  rfl
theorem rem_13 (a : Nat) (kk : KP) : evBin2 tbx .rem 22 (.i .u64 (.ofNat a)) (.i .u64 (.ofNat 13)) kk = kk (.i .u64 (.ofNat (a % 13))) := by
  have e : evBin2 tbx .rem 22 (.i .u64 (.ofNat a)) (.i .u64 (.ofNat 13)) kk = fI (Int.tmod (.ofNat a) (.ofNat 13)) fun r => kk (.i .u64 r) := by kernel_rfl
  rw [e, fI_eq]
  rfl
theorem rem_14 (a : Nat) (kk : KP) : evBin2 tbx .rem 22 (.i .u64 (.ofNat a)) (.i .u64 (.ofNat 14)) kk = kk (.i .u64 (.ofNat (a % 14))) := by
  have e : evBin2 tbx .rem 22 (.i .u64 (.ofNat a)) (.i .u64 (.ofNat 14)) kk = fI (Int.tmod (.ofNat a) (.ofNat 14)) fun r => kk (.i .u64 r) := by kernel_rfl
  rw [e, fI_eq]
  rfl
noncomputable def u3 (fu : Nat) (cf : CF) (v1 v2 : V) (h : H) (n : Id) (k : KV) : R :=
 evAlloc tbx 26 h n fun v14 h n =>
 evStore tbx 26 v14 (.fn 15 []) h n fun _ h n =>
 let v15 : V := (.fn 17 [v1, v14, v2])
 evLoad tbx 26 v14 h fun v16 =>
 evLoad tbx 26 v14 h fun w137 => cond (eqV 6 w137 v16) (
 evCall cf v15 [(.b false)] h n fun v17 h n =>
 evLoad tbx 26 v14 h fun w136 => cond (eqV 6 w136 v16) (
 evCall cf v16 [(.i .i64 0)] h n fun v18 h n =>
 cf 20 [v17, v18] h n fun v19 h n =>
 evExt 0 v19 fun v20 =>
 evExt 1 v19 fun v21 =>
 evLoad tbx 26 v14 h fun v22 =>
 evLoad tbx 26 v14 h fun w135 => cond (eqV 6 w135 v22) (
 evCall cf v15 [(.b true)] h n fun v23 h n =>
 evLoad tbx 26 v14 h fun w134 => cond (eqV 6 w134 v22) (
 evCall cf v22 [(.i .i64 0)] h n fun v24 h n =>
 cf 20 [v23, v24] h n fun v25 h n =>
 evExt 0 v25 fun v26 =>
 evExt 1 v25 fun v27 =>
 cf 21 [] h n fun v28 h n =>
 evUn .not v28 fun v29 =>
 jp (fun (v30 : V) h n =>
 jp (fun (v32 : V) h n =>
 jp (fun (v34 : V) h n =>
 evPick v29 (.b true) v34 fun v36 =>
 brB v36 (
 k (.b false) h n) (
 evLoad tbx 3 v1 h fun v37 =>
 evBin2 tbx .gtr 3 v37 (.i .i64 10) fun v38 =>
 brB v38 (
 evBin2 tbx .eql 33 v21 (.i .i64 7) fun v39 =>
 jp (fun (v40 : V) h n =>
 jp (fun (v42 : V) h n =>
 evPick v39 v42 (.b false) fun v44 =>
 jp (fun (v45 : V) h n =>
 jp (fun (v47 : V) h n =>
 jp (fun (v49 : V) h n =>
 evPick v44 v49 (.b false) fun v51 =>
 k v51 h n) fun kk50 =>
 gdB v44 true ((evBin2 tbx .eql 3 v47 (.i .i64 0) fun v => kk50 v h n)) (kk50 (.tp []) h n)) fun kk48 =>
 gdB v44 true ((evLen tbx 41 v45 fun v => kk48 v h n)) (kk48 (.tp []) h n)) fun kk46 =>
 gdB v44 true (kk46 v20 h n) (kk46 (.tp []) h n)) fun kk43 =>
 gdB v39 true ((evBin2 tbx .eql 33 v40 (.i .i64 7) fun v => kk43 v h n)) (kk43 (.tp []) h n)) fun kk41 =>
 gdB v39 true (kk41 v27 h n) (kk41 (.tp []) h n)) (
 evBin2 tbx .neq 33 v21 (.i .i64 0) fun v52 =>
 jp (fun (v53 : V) h n =>
 jp (fun (v55 : V) h n =>
 evPick v52 (.b true) v55 fun v57 =>
 jp (fun (v58 : V) h n =>
 jp (fun (v60 : V) h n =>
 jp (fun (v62 : V) h n =>
 jp (fun (v64 : V) h n =>
 evPick v57 (.b true) v64 fun v66 =>
 brB v66 (
 k (.b false) h n) (
 jp (fun (s67 : VT [2, 5, 6]) h n =>
 pc s67 fun v69 s70 =>
 pc s70 fun v71 s72 =>
 pc s72 fun v73 s74 =>
 evLoad tbx 26 v71 h fun v75 =>
 evLoad tbx 3 v69 h fun v76 =>
 evLoad tbx 26 v71 h fun w96 => cond (eqV 6 w96 v75) (
 evLoad tbx 3 v69 h fun w95 => cond (eqV 6 w95 v76) (
 evCall cf v73 [(.b false)] h n fun v77 h n =>
 evLoad tbx 26 v71 h fun w94 => cond (eqV 6 w94 v75) (
 evLoad tbx 3 v69 h fun w93 => cond (eqV 6 w93 v76) (
 evCall cf v75 [v76] h n fun v78 h n =>
 cf 20 [v77, v78] h n fun v79 h n =>
 evExt 0 v79 fun v80 =>
 evExt 1 v79 fun v81 =>
 evLoad tbx 26 v71 h fun v82 =>
 evCall cf v82 [(.i .i64 0)] h n fun v83 h n =>
 cf 20 [.np, v83] h n fun v84 h n =>
 evExt 0 v84 fun v85 =>
 evExt 1 v84 fun v86 =>
 evBin2 tbx .eql 33 v81 (.i .i64 14) fun v87 =>
 jp (fun (v88 : V) h n =>
 jp (fun (v90 : V) h n =>
 evPick v87 v90 (.b false) fun v92 =>
 k v92 h n) fun kk91 =>
 gdB v87 true ((evBin2 tbx .eql 33 v88 (.i .i64 14) fun v => kk91 v h n)) (kk91 (.tp []) h n)) fun kk89 =>
 gdB v87 true (kk89 v86 h n) (kk89 (.tp []) h n)) none) none) none) none) fun kk68 =>
 lpC [2, 5, 6, 7, 11] (fun lo98 s97 h n =>
 pc s97 fun v99 s100 =>
 pc s100 fun v101 s102 =>
 pc s102 fun v103 s104 =>
 pc s104 fun v105 s106 =>
 pc s106 fun v107 s108 =>
 evLoad tbx 3 v99 h fun v109 =>
 evBin2 tbx .lss 3 v107 v109 fun v110 =>
 brB v110 (
 jp (fun (s111 : VT [2, 5, 6, 7, 11]) h n =>
 pc s111 fun v113 s114 =>
 pc s114 fun v115 s116 =>
 pc s116 fun v117 s118 =>
 pc s118 fun v119 s120 =>
 pc s120 fun v121 s122 =>
 evBin2 tbx .add 3 v121 (.i .i64 1) fun v123 =>
 lo98 (v113, v115, v117, v119, v123, ()) h n) fun kk112 =>
 evIa tbx 41 v105 v107 fun v124 =>
 evFa tbx 32 2 v124 fun v125 =>
 evLoad tbx 9 v125 h fun v126 =>
 evLoad tbx 26 v101 h fun v127 =>
 evLoad tbx 9 v125 h fun w133 => cond (eqV 6 w133 v126) (
 evLoad tbx 26 v101 h fun w132 => cond (eqV 6 w132 v127) (
 evCall cf v127 [v107] h n fun v128 h n =>
 evFld mtab 24 1 v128 fun v129 =>
 evBin2 tbx .neq 9 v126 v129 fun v130 =>
 evLoad tbx 9 v125 h fun w131 => cond (eqV 6 w131 v126) (
 brB v130 (
 k (.b false) h n) (
 kk112 (v99, v101, v103, v105, v107, ()) h n)) none) none) none) (
 kk68 (v99, v101, v103, ()) h n)) fu (v1, v14, v15, v20, (.i .i64 0), ()) h n)) fun kk65 =>
 gdB v57 false ((evBin2 tbx .neq 3 v60 v62 fun v => kk65 v h n)) (kk65 (.tp []) h n)) fun kk63 =>
 gdB v57 false ((evLoad tbx 3 v1 h fun v => kk63 v h n)) (kk63 (.tp []) h n)) fun kk61 =>
 gdB v57 false ((evLen tbx 41 v58 fun v => kk61 v h n)) (kk61 (.tp []) h n)) fun kk59 =>
 gdB v57 false (kk59 v20 h n) (kk59 (.tp []) h n)) fun kk56 =>
 gdB v52 false ((evBin2 tbx .neq 33 v53 (.i .i64 16) fun v => kk56 v h n)) (kk56 (.tp []) h n)) fun kk54 =>
 gdB v52 false (kk54 v27 h n) (kk54 (.tp []) h n)))) fun kk35 =>
 gdB v29 false ((evBin2 tbx .neq 3 v32 (.i .i64 0) fun v => kk35 v h n)) (kk35 (.tp []) h n)) fun kk33 =>
 gdB v29 false ((evLen tbx 41 v30 fun v => kk33 v h n)) (kk33 (.tp []) h n)) fun kk31 =>
 gdB v29 false (kk31 v26 h n) (kk31 (.tp []) h n)) none) none) none) none
noncomputable def nx (n : Id) : Id := match nxt n with | some m => m | none => n
noncomputable def hh (x y : V) : H := hset (.cs 0 0 [y]) (nx n0) (hset (.cs 0 0 [x]) n0 .e)
noncomputable abbrev P1 : V := .p n0 0
noncomputable abbrev P2 : V := .p (nx n0) 0
noncomputable abbrev n2 : Id := nx (nx n0)
noncomputable def e3a (fu : Nat) (cf : CF) (v1 v2 v13 : V) (h : H) (n : Id) (k : KV) : R := evStore tbx 3 v2 v13 h n fun _ h n => u3 fu cf v1 v2 h n k
noncomputable def d3 (fu : Nat) (cf : CF) (v1 v2 v9 : V) (h : H) (n : Id) (k : KV) : R := evLoad tbx 3 v1 h fun v10 => evConv2 tbx mtab 3 22 v10 h n fun v11 h n => evBin2 tbx .rem 22 v9 v11 fun v12 => evConv2 tbx mtab 22 3 v12 h n fun v13 h n => e3a fu cf v1 v2 v13 h n k
noncomputable def c3 (fu : Nat) (cf : CF) (v1 v2 v5 : V) (h : H) (n : Id) (k : KV) : R := evConv2 tbx mtab 22 3 v5 h n fun v6 h n => evBin2 tbx .add 3 (.i .i64 1) v6 fun v7 => evStore tbx 3 v1 v7 h n fun _ h n => evLoad tbx 3 v2 h fun v8 => evConv2 tbx mtab 3 22 v8 h n fun v9 h n => d3 fu cf v1 v2 v9 h n k
noncomputable def b3 (fu : Nat) (cf : CF) (v1 v2 v3 : V) (h : H) (n : Id) (k : KV) : R := evConv2 tbx mtab 3 22 v3 h n fun v4 h n => evBin2 tbx .rem 22 v4 (.i .u64 (.ofNat 14)) fun v5 => c3 fu cf v1 v2 v5 h n k
noncomputable def a3 (fu : Nat) (cf : CF) (a0 a1 : V) (h : H) (n : Id) (k : KV) : R := evBox a0 h n fun v1 h n => evBox a1 h n fun v2 h n => evLoad tbx 3 v1 h fun v3 => b3 fu cf v1 v2 v3 h n k
theorem s3_a (fu : Nat) (cf : CF) (a0 a1 : V) (h : H) (n : Id) (k : KV) : s3 fu cf a0 a1 h n k = a3 fu cf a0 a1 h n k := by unfold a3 b3 c3 d3 e3a u3; kernel_rfl
noncomputable def h1 (x : V) : H := hset (.cs 0 0 [x]) n0 .e
noncomputable def n1 : Id := nx n0
noncomputable def m2 : Id := nx n1
theorem bx3a (x : Int) (k : KV) : evBox (.i .i64 x) .e n0 k = k P1 (h1 (.i .i64 x)) n1 := by kernel_rfl
theorem bx3b (x : V) (y : Int) (k : KV) : evBox (.i .i64 y) (h1 x) n1 k = k P2 (hh x (.i .i64 y)) m2 := by kernel_rfl
theorem ld3a (x : Int) (y : V) (k : KP) : evLoad tbx 3 P1 (hh (.i .i64 x) y) k = k (.i .i64 x) := by kernel_rfl
theorem ld3b (x : V) (y : Int) (k : KP) : evLoad tbx 3 P2 (hh x (.i .i64 y)) k = k (.i .i64 y) := by kernel_rfl
theorem st3a (x z : Int) (y : V) (n : Id) (k : KV) : evStore tbx 3 P1 (.i .i64 z) (hh (.i .i64 x) y) n k = k .j (hh (.i .i64 z) y) n := by kernel_rfl
theorem st3b (x : V) (y z : Int) (n : Id) (k : KV) : evStore tbx 3 P2 (.i .i64 z) (hh x (.i .i64 y)) n k = k .j (hh x (.i .i64 z)) n := by kernel_rfl
theorem add_0 (k : KP) : evBin2 tbx .add 3 (.i .i64 1) (vN 0) k = k (vN 1) := by kernel_rfl
theorem add_1 (k : KP) : evBin2 tbx .add 3 (.i .i64 1) (vN 1) k = k (vN 2) := by kernel_rfl
theorem add_2 (k : KP) : evBin2 tbx .add 3 (.i .i64 1) (vN 2) k = k (vN 3) := by kernel_rfl
theorem add_3 (k : KP) : evBin2 tbx .add 3 (.i .i64 1) (vN 3) k = k (vN 4) := by kernel_rfl
theorem add_4 (k : KP) : evBin2 tbx .add 3 (.i .i64 1) (vN 4) k = k (vN 5) := by kernel_rfl
theorem add_5 (k : KP) : evBin2 tbx .add 3 (.i .i64 1) (vN 5) k = k (vN 6) := by kernel_rfl
theorem add_6 (k : KP) : evBin2 tbx .add 3 (.i .i64 1) (vN 6) k = k (vN 7) := by kernel_rfl
theorem add_7 (k : KP) : evBin2 tbx .add 3 (.i .i64 1) (vN 7) k = k (vN 8) := by kernel_rfl
theorem add_8 (k : KP) : evBin2 tbx .add 3 (.i .i64 1) (vN 8) k = k (vN 9) := by kernel_rfl
theorem add_9 (k : KP) : evBin2 tbx .add 3 (.i .i64 1) (vN 9) k = k (vN 10) := by kernel_rfl
theorem add_10 (k : KP) : evBin2 tbx .add 3 (.i .i64 1) (vN 10) k = k (vN 11) := by kernel_rfl
theorem add_11 (k : KP) : evBin2 tbx .add 3 (.i .i64 1) (vN 11) k = k (vN 12) := by kernel_rfl
theorem add_12 (k : KP) : evBin2 tbx .add 3 (.i .i64 1) (vN 12) k = k (vN 13) := by kernel_rfl
theorem add_13 (k : KP) : evBin2 tbx .add 3 (.i .i64 1) (vN 13) k = k (vN 14) := by kernel_rfl
theorem s3_0 (fu : Nat) (cf : CF) (i j : Int) (hi : uN i % 14 = 0) (k : KV) : s3 fu cf (.i .i64 i) (.i .i64 j) .e n0 k = u3 fu cf P1 P2 (hh (vN 1) (vN (uN j % 1))) m2 k := by
  rw [s3_a]
  unfold a3
  rw [bx3a, bx3b, ld3a]
  unfold b3
  rw [conv_u, rem_14, hi]
  unfold c3
  rw [conv_b _ (by omega : 0 < 9223372036854775808), add_0, st3a, ld3b, conv_u]
  unfold d3
  rw [ld3a, conv_u, show uN (Int.ofNat 1) = 1 from rfl, rem_1, conv_b _ (Nat.lt_trans (Nat.mod_lt _ (by omega)) (by omega : 1 < 9223372036854775808))]
  unfold e3a
  rw [st3b]
theorem s3_r0 (fu : Nat) (cf : CF) (i j : Int) (hi : uN i % 14 = 0) (k : KV) : s3 fu cf (.i .i64 i) (.i .i64 j) .e n0 k = s3 fu cf (vN 0) (vN (uN j % 1)) .e n0 k := by
  rw [s3_0 fu cf i j hi, s3_0 fu cf (.ofNat 0) (.ofNat (uN j % 1)) rfl, uN_nat (Nat.lt_trans (Nat.mod_lt _ (by omega)) (by omega : 1 < 18446744073709551616)), Nat.mod_mod]
theorem s3_1 (fu : Nat) (cf : CF) (i j : Int) (hi : uN i % 14 = 1) (k : KV) : s3 fu cf (.i .i64 i) (.i .i64 j) .e n0 k = u3 fu cf P1 P2 (hh (vN 2) (vN (uN j % 2))) m2 k := by
  rw [s3_a]
  unfold a3
  rw [bx3a, bx3b, ld3a]
  unfold b3
  rw [conv_u, rem_14, hi]
  unfold c3
  rw [conv_b _ (by omega : 1 < 9223372036854775808), add_1, st3a, ld3b, conv_u]
  unfold d3
  rw [ld3a, conv_u, show uN (Int.ofNat 2) = 2 from rfl, rem_2, conv_b _ (Nat.lt_trans (Nat.mod_lt _ (by omega)) (by omega : 2 < 9223372036854775808))]
  unfold e3a
  rw [st3b]
theorem s3_r1 (fu : Nat) (cf : CF) (i j : Int) (hi : uN i % 14 = 1) (k : KV) : s3 fu cf (.i .i64 i) (.i .i64 j) .e n0 k = s3 fu cf (vN 1) (vN (uN j % 2)) .e n0 k := by
  rw [s3_1 fu cf i j hi, s3_1 fu cf (.ofNat 1) (.ofNat (uN j % 2)) rfl, uN_nat (Nat.lt_trans (Nat.mod_lt _ (by omega)) (by omega : 2 < 18446744073709551616)), Nat.mod_mod]
theorem s3_2 (fu : Nat) (cf : CF) (i j : Int) (hi : uN i % 14 = 2) (k : KV) : s3 fu cf (.i .i64 i) (.i .i64 j) .e n0 k = u3 fu cf P1 P2 (hh (vN 3) (vN (uN j % 3))) m2 k := by
  rw [s3_a]
  unfold a3
  rw [bx3a, bx3b, ld3a]
  unfold b3
  rw [conv_u, rem_14, hi]
  unfold c3
  rw [conv_b _ (by omega : 2 < 9223372036854775808), add_2, st3a, ld3b, conv_u]
  unfold d3
  rw [ld3a, conv_u, show uN (Int.ofNat 3) = 3 from rfl, rem_3, conv_b _ (Nat.lt_trans (Nat.mod_lt _ (by omega)) (by omega : 3 < 9223372036854775808))]
  unfold e3a
  rw [st3b]
theorem s3_r2 (fu : Nat) (cf : CF) (i j : Int) (hi : uN i % 14 = 2) (k : KV) : s3 fu cf (.i .i64 i) (.i .i64 j) .e n0 k = s3 fu cf (vN 2) (vN (uN j % 3)) .e n0 k := by
  rw [s3_2 fu cf i j hi, s3_2 fu cf (.ofNat 2) (.ofNat (uN j % 3)) rfl, uN_nat (Nat.lt_trans (Nat.mod_lt _ (by omega)) (by omega : 3 < 18446744073709551616)), Nat.mod_mod]
theorem s3_3 (fu : Nat) (cf : CF) (i j : Int) (hi : uN i % 14 = 3) (k : KV) : s3 fu cf (.i .i64 i) (.i .i64 j) .e n0 k = u3 fu cf P1 P2 (hh (vN 4) (vN (uN j % 4))) m2 k := by
  rw [s3_a]
  unfold a3
  rw [bx3a, bx3b, ld3a]
  unfold b3
  rw [conv_u, rem_14, hi]
  unfold c3
  rw [conv_b _ (by omega : 3 < 9223372036854775808), add_3, st3a, ld3b, conv_u]
  unfold d3
  rw [ld3a, conv_u, show uN (Int.ofNat 4) = 4 from rfl, rem_4, conv_b _ (Nat.lt_trans (Nat.mod_lt _ (by omega)) (by omega : 4 < 9223372036854775808))]
  unfold e3a
  rw [st3b]
theorem s3_r3 (fu : Nat) (cf : CF) (i j : Int) (hi : uN i % 14 = 3) (k : KV) : s3 fu cf (.i .i64 i) (.i .i64 j) .e n0 k = s3 fu cf (vN 3) (vN (uN j % 4)) .e n0 k := by
  rw [s3_3 fu cf i j hi, s3_3 fu cf (.ofNat 3) (.ofNat (uN j % 4)) rfl, uN_nat (Nat.lt_trans (Nat.mod_lt _ (by omega)) (by omega : 4 < 18446744073709551616)), Nat.mod_mod]
theorem s3_4 (fu : Nat) (cf : CF) (i j : Int) (hi : uN i % 14 = 4) (k : KV) : s3 fu cf (.i .i64 i) (.i .i64 j) .e n0 k = u3 fu cf P1 P2 (hh (vN 5) (vN (uN j % 5))) m2 k := by
  rw [s3_a]
  unfold a3
  rw [bx3a, bx3b, ld3a]
  unfold b3
  rw [conv_u, rem_14, hi]
  unfold c3
  rw [conv_b _ (by omega : 4 < 9223372036854775808), add_4, st3a, ld3b, conv_u]
  unfold d3
  rw [ld3a, conv_u, show uN (Int.ofNat 5) = 5 from rfl, rem_5, conv_b _ (Nat.lt_trans (Nat.mod_lt _ (by omega)) (by omega : 5 < 9223372036854775808))]
  unfold e3a
  rw [st3b]
theorem s3_r4 (fu : Nat) (cf : CF) (i j : Int) (hi : uN i % 14 = 4) (k : KV) : s3 fu cf (.i .i64 i) (.i .i64 j) .e n0 k = s3 fu cf (vN 4) (vN (uN j % 5)) .e n0 k := by
  rw [s3_4 fu cf i j hi, s3_4 fu cf (.ofNat 4) (.ofNat (uN j % 5)) rfl, uN_nat (Nat.lt_trans (Nat.mod_lt _ (by omega)) (by omega : 5 < 18446744073709551616)), Nat.mod_mod]
theorem s3_5 (fu : Nat) (cf : CF) (i j : Int) (hi : uN i % 14 = 5) (k : KV) : s3 fu cf (.i .i64 i) (.i .i64 j) .e n0 k = u3 fu cf P1 P2 (hh (vN 6) (vN (uN j % 6))) m2 k := by
  rw [s3_a]
  unfold a3
  rw [bx3a, bx3b, ld3a]
  unfold b3
  rw [conv_u, rem_14, hi]
  unfold c3
  rw [conv_b _ (by omega : 5 < 9223372036854775808), add_5, st3a, ld3b, conv_u]
  unfold d3
  rw [ld3a, conv_u, show uN (Int.ofNat 6) = 6 from rfl, rem_6, conv_b _ (Nat.lt_trans (Nat.mod_lt _ (by omega)) (by omega : 6 < 9223372036854775808))]
  unfold e3a
  rw [st3b]
theorem s3_r5 (fu : Nat) (cf : CF) (i j : Int) (hi : uN i % 14 = 5) (k : KV) : s3 fu cf (.i .i64 i) (.i .i64 j) .e n0 k = s3 fu cf (vN 5) (vN (uN j % 6)) .e n0 k := by
  rw [s3_5 fu cf i j hi, s3_5 fu cf (.ofNat 5) (.ofNat (uN j % 6)) rfl, uN_nat (Nat.lt_trans (Nat.mod_lt _ (by omega)) (by omega : 6 < 18446744073709551616)), Nat.mod_mod]
theorem s3_6 (fu : Nat) (cf : CF) (i j : Int) (hi : uN i % 14 = 6) (k : KV) : s3 fu cf (.i .i64 i) (.i .i64 j) .e n0 k = u3 fu cf P1 P2 (hh (vN 7) (vN (uN j % 7))) m2 k := by
  rw [s3_a]
  unfold a3
  rw [bx3a, bx3b, ld3a]
  unfold b3
  rw [conv_u, rem_14, hi]
  unfold c3
  rw [conv_b _ (by omega : 6 < 9223372036854775808), add_6, st3a, ld3b, conv_u]
  unfold d3
  rw [ld3a, conv_u, show uN (Int.ofNat 7) = 7 from rfl, rem_7, conv_b _ (Nat.lt_trans (Nat.mod_lt _ (by omega)) (by omega : 7 < 9223372036854775808))]
  unfold e3a
  rw [st3b]
theorem s3_r6 (fu : Nat) (cf : CF) (i j : Int) (hi : uN i % 14 = 6) (k : KV) : s3 fu cf (.i .i64 i) (.i .i64 j) .e n0 k = s3 fu cf (vN 6) (vN (uN j % 7)) .e n0 k := by
  rw [s3_6 fu cf i j hi, s3_6 fu cf (.ofNat 6) (.ofNat (uN j % 7)) rfl, uN_nat (Nat.lt_trans (Nat.mod_lt _ (by omega)) (by omega : 7 < 18446744073709551616)), Nat.mod_mod]
theorem s3_7 (fu : Nat) (cf : CF) (i j : Int) (hi : uN i % 14 = 7) (k : KV) : s3 fu cf (.i .i64 i) (.i .i64 j) .e n0 k = u3 fu cf P1 P2 (hh (vN 8) (vN (uN j % 8))) m2 k := by
  rw [s3_a]
  unfold a3
  rw [bx3a, bx3b, ld3a]
  unfold b3
  rw [conv_u, rem_14, hi]
  unfold c3
  rw [conv_b _ (by omega : 7 < 9223372036854775808), add_7, st3a, ld3b, conv_u]
  unfold d3
  rw [ld3a, conv_u, show uN (Int.ofNat 8) = 8 from rfl, rem_8, conv_b _ (Nat.lt_trans (Nat.mod_lt _ (by omega)) (by omega : 8 < 9223372036854775808))]
  unfold e3a
  rw [st3b]
theorem s3_r7 (fu : Nat) (cf : CF) (i j : Int) (hi : uN i % 14 = 7) (k : KV) : s3 fu cf (.i .i64 i) (.i .i64 j) .e n0 k = s3 fu cf (vN 7) (vN (uN j % 8)) .e n0 k := by
  rw [s3_7 fu cf i j hi, s3_7 fu cf (.ofNat 7) (.ofNat (uN j % 8)) rfl, uN_nat (Nat.lt_trans (Nat.mod_lt _ (by omega)) (by omega : 8 < 18446744073709551616)), Nat.mod_mod]
theorem s3_8 (fu : Nat) (cf : CF) (i j : Int) (hi : uN i % 14 = 8) (k : KV) : s3 fu cf (.i .i64 i) (.i .i64 j) .e n0 k = u3 fu cf P1 P2 (hh (vN 9) (vN (uN j % 9))) m2 k := by
  rw [s3_a]
  unfold a3
  rw [bx3a, bx3b, ld3a]
  unfold b3
  rw [conv_u, rem_14, hi]
  unfold c3
  rw [conv_b _ (by omega : 8 < 9223372036854775808), add_8, st3a, ld3b, conv_u]
  unfold d3
  rw [ld3a, conv_u, show uN (Int.ofNat 9) = 9 from rfl, rem_9, conv_b _ (Nat.lt_trans (Nat.mod_lt _ (by omega)) (by omega : 9 < 9223372036854775808))]
  unfold e3a
  rw [st3b]
theorem s3_r8 (fu : Nat) (cf : CF) (i j : Int) (hi : uN i % 14 = 8) (k : KV) : s3 fu cf (.i .i64 i) (.i .i64 j) .e n0 k = s3 fu cf (vN 8) (vN (uN j % 9)) .e n0 k := by
  rw [s3_8 fu cf i j hi, s3_8 fu cf (.ofNat 8) (.ofNat (uN j % 9)) rfl, uN_nat (Nat.lt_trans (Nat.mod_lt _ (by omega)) (by omega : 9 < 18446744073709551616)), Nat.mod_mod]
theorem s3_9 (fu : Nat) (cf : CF) (i j : Int) (hi : uN i % 14 = 9) (k : KV) : s3 fu cf (.i .i64 i) (.i .i64 j) .e n0 k = u3 fu cf P1 P2 (hh (vN 10) (vN (uN j % 10))) m2 k := by
  rw [s3_a]
  unfold a3
  rw [bx3a, bx3b, ld3a]
  unfold b3
  rw [conv_u, rem_14, hi]
  unfold c3
  rw [conv_b _ (by omega : 9 < 9223372036854775808), add_9, st3a, ld3b, conv_u]
  unfold d3
  rw [ld3a, conv_u, show uN (Int.ofNat 10) = 10 from rfl, rem_10, conv_b _ (Nat.lt_trans (Nat.mod_lt _ (by omega)) (by omega : 10 < 9223372036854775808))]
  unfold e3a
  rw [st3b]
theorem s3_r9 (fu : Nat) (cf : CF) (i j : Int) (hi : uN i % 14 = 9) (k : KV) : s3 fu cf (.i .i64 i) (.i .i64 j) .e n0 k = s3 fu cf (vN 9) (vN (uN j % 10)) .e n0 k := by
  rw [s3_9 fu cf i j hi, s3_9 fu cf (.ofNat 9) (.ofNat (uN j % 10)) rfl, uN_nat (Nat.lt_trans (Nat.mod_lt _ (by omega)) (by omega : 10 < 18446744073709551616)), Nat.mod_mod]
theorem s3_10 (fu : Nat) (cf : CF) (i j : Int) (hi : uN i % 14 = 10) (k : KV) : s3 fu cf (.i .i64 i) (.i .i64 j) .e n0 k = u3 fu cf P1 P2 (hh (vN 11) (vN (uN j % 11))) m2 k := by
  rw [s3_a]
  unfold a3
  rw [bx3a, bx3b, ld3a]
  unfold b3
  rw [conv_u, rem_14, hi]
  unfold c3
  rw [conv_b _ (by omega : 10 < 9223372036854775808), add_10, st3a, ld3b, conv_u]
  unfold d3
  rw [ld3a, conv_u, show uN (Int.ofNat 11) = 11 from rfl, rem_11, conv_b _ (Nat.lt_trans (Nat.mod_lt _ (by omega)) (by omega : 11 < 9223372036854775808))]
  unfold e3a
  rw [st3b]
theorem s3_r10 (fu : Nat) (cf : CF) (i j : Int) (hi : uN i % 14 = 10) (k : KV) : s3 fu cf (.i .i64 i) (.i .i64 j) .e n0 k = s3 fu cf (vN 10) (vN (uN j % 11)) .e n0 k := by
  rw [s3_10 fu cf i j hi, s3_10 fu cf (.ofNat 10) (.ofNat (uN j % 11)) rfl, uN_nat (Nat.lt_trans (Nat.mod_lt _ (by omega)) (by omega : 11 < 18446744073709551616)), Nat.mod_mod]
theorem s3_11 (fu : Nat) (cf : CF) (i j : Int) (hi : uN i % 14 = 11) (k : KV) : s3 fu cf (.i .i64 i) (.i .i64 j) .e n0 k = u3 fu cf P1 P2 (hh (vN 12) (vN (uN j % 12))) m2 k := by
  rw [s3_a]
  unfold a3
  rw [bx3a, bx3b, ld3a]
  unfold b3
  rw [conv_u, rem_14, hi]
  unfold c3
  rw [conv_b _ (by omega : 11 < 9223372036854775808), add_11, st3a, ld3b, conv_u]
  unfold d3
  rw [ld3a, conv_u, show uN (Int.ofNat 12) = 12 from rfl, rem_12, conv_b _ (Nat.lt_trans (Nat.mod_lt _ (by omega)) (by omega : 12 < 9223372036854775808))]
  unfold e3a
  rw [st3b]
theorem s3_r11 (fu : Nat) (cf : CF) (i j : Int) (hi : uN i % 14 = 11) (k : KV) : s3 fu cf (.i .i64 i) (.i .i64 j) .e n0 k = s3 fu cf (vN 11) (vN (uN j % 12)) .e n0 k := by
  rw [s3_11 fu cf i j hi, s3_11 fu cf (.ofNat 11) (.ofNat (uN j % 12)) rfl, uN_nat (Nat.lt_trans (Nat.mod_lt _ (by omega)) (by omega : 12 < 18446744073709551616)), Nat.mod_mod]
theorem s3_12 (fu : Nat) (cf : CF) (i j : Int) (hi : uN i % 14 = 12) (k : KV) : s3 fu cf (.i .i64 i) (.i .i64 j) .e n0 k = u3 fu cf P1 P2 (hh (vN 13) (vN (uN j % 13))) m2 k := by
  rw [s3_a]
  unfold a3
  rw [bx3a, bx3b, ld3a]
  unfold b3
  rw [conv_u, rem_14, hi]
  unfold c3
  rw [conv_b _ (by omega : 12 < 9223372036854775808), add_12, st3a, ld3b, conv_u]
  unfold d3
  rw [ld3a, conv_u, show uN (Int.ofNat 13) = 13 from rfl, rem_13, conv_b _ (Nat.lt_trans (Nat.mod_lt _ (by omega)) (by omega : 13 < 9223372036854775808))]
  unfold e3a
  rw [st3b]
theorem s3_r12 (fu : Nat) (cf : CF) (i j : Int) (hi : uN i % 14 = 12) (k : KV) : s3 fu cf (.i .i64 i) (.i .i64 j) .e n0 k = s3 fu cf (vN 12) (vN (uN j % 13)) .e n0 k := by
  rw [s3_12 fu cf i j hi, s3_12 fu cf (.ofNat 12) (.ofNat (uN j % 13)) rfl, uN_nat (Nat.lt_trans (Nat.mod_lt _ (by omega)) (by omega : 13 < 18446744073709551616)), Nat.mod_mod]
theorem s3_13 (fu : Nat) (cf : CF) (i j : Int) (hi : uN i % 14 = 13) (k : KV) : s3 fu cf (.i .i64 i) (.i .i64 j) .e n0 k = u3 fu cf P1 P2 (hh (vN 14) (vN (uN j % 14))) m2 k := by
  rw [s3_a]
  unfold a3
  rw [bx3a, bx3b, ld3a]
  unfold b3
  rw [conv_u, rem_14, hi]
  unfold c3
  rw [conv_b _ (by omega : 13 < 9223372036854775808), add_13, st3a, ld3b, conv_u]
  unfold d3
  rw [ld3a, conv_u, show uN (Int.ofNat 14) = 14 from rfl, rem_14, conv_b _ (Nat.lt_trans (Nat.mod_lt _ (by omega)) (by omega : 14 < 9223372036854775808))]
  unfold e3a
  rw [st3b]
theorem s3_r13 (fu : Nat) (cf : CF) (i j : Int) (hi : uN i % 14 = 13) (k : KV) : s3 fu cf (.i .i64 i) (.i .i64 j) .e n0 k = s3 fu cf (vN 13) (vN (uN j % 14)) .e n0 k := by
  rw [s3_13 fu cf i j hi, s3_13 fu cf (.ofNat 13) (.ofNat (uN j % 14)) rfl, uN_nat (Nat.lt_trans (Nat.mod_lt _ (by omega)) (by omega : 14 < 18446744073709551616)), Nat.mod_mod]
theorem wv2 (s : CF → V → V → H → Id → KV → R) (cf : CF) (a0 a1 : V) (h : H) (n : Id) (k : KV) : w2 s cf [a0, a1] h n k = s cf a0 a1 h n k := rfl
end Go.Proofs.Nw.X
end
section
/- printed by xl3.py: function 3 returns true. -/
open Go Go.RowKit Go.Proofs
set_option maxRecDepth 100000
namespace Go.Proofs.Nw.X
open Go.Proofs.Nw.K
theorem all3_0 (q : Nat) (hq : q < 1) : cfY 200 3 [vN 0, vN q] .e n0 kEnd = some (.b true) := by
  match q, hq with
  | 0, _ => exact c3_0_0
  | q + 1, hq => exact absurd hq (by omega)
theorem all3_1 (q : Nat) (hq : q < 2) : cfY 200 3 [vN 1, vN q] .e n0 kEnd = some (.b true) := by
  match q, hq with
  | 0, _ => exact c3_1_0
  | 1, _ => exact c3_1_1
  | q + 2, hq => exact absurd hq (by omega)
theorem all3_2 (q : Nat) (hq : q < 3) : cfY 200 3 [vN 2, vN q] .e n0 kEnd = some (.b true) := by
  match q, hq with
  | 0, _ => exact c3_2_0
  | 1, _ => exact c3_2_1
  | 2, _ => exact c3_2_2
  | q + 3, hq => exact absurd hq (by omega)
theorem all3_3 (q : Nat) (hq : q < 4) : cfY 200 3 [vN 3, vN q] .e n0 kEnd = some (.b true) := by
  match q, hq with
  | 0, _ => exact c3_3_0
  | 1, _ => exact c3_3_1
  | 2, _ => exact c3_3_2
  | 3, _ => exact c3_3_3
  | q + 4, hq => exact absurd hq (by omega)
theorem all3_4 (q : Nat) (hq : q < 5) : cfY 200 3 [vN 4, vN q] .e n0 kEnd = some (.b true) := by
  match q, hq with
  | 0, _ => exact c3_4_0
  | 1, _ => exact c3_4_1
  | 2, _ => exact c3_4_2
  | 3, _ => exact c3_4_3
  | 4, _ => exact c3_4_4
  | q + 5, hq => exact absurd hq (by omega)
theorem all3_5 (q : Nat) (hq : q < 6) : cfY 200 3 [vN 5, vN q] .e n0 kEnd = some (.b true) := by
  match q, hq with
  | 0, _ => exact c3_5_0
  | 1, _ => exact c3_5_1
  | 2, _ => exact c3_5_2
  | 3, _ => exact c3_5_3
  | 4, _ => exact c3_5_4
  | 5, _ => exact c3_5_5
  | q + 6, hq => exact absurd hq (by omega)
theorem all3_6 (q : Nat) (hq : q < 7) : cfY 200 3 [vN 6, vN q] .e n0 kEnd = some (.b true) := by
  match q, hq with
  | 0, _ => exact c3_6_0
  | 1, _ => exact c3_6_1
  | 2, _ => exact c3_6_2
  | 3, _ => exact c3_6_3
  | 4, _ => exact c3_6_4
  | 5, _ => exact c3_6_5
  | 6, _ => exact c3_6_6
  | q + 7, hq => exact absurd hq (by omega)
theorem all3_7 (q : Nat) (hq : q < 8) : cfY 200 3 [vN 7, vN q] .e n0 kEnd = some (.b true) := by
  match q, hq with
  | 0, _ => exact c3_7_0
  | 1, _ => exact c3_7_1
  | 2, _ => exact c3_7_2
  | 3, _ => exact c3_7_3
  | 4, _ => exact c3_7_4
  | 5, _ => exact c3_7_5
  | 6, _ => exact c3_7_6
  | 7, _ => exact c3_7_7
  | q + 8, hq => exact absurd hq (by omega)
theorem all3_8 (q : Nat) (hq : q < 9) : cfY 200 3 [vN 8, vN q] .e n0 kEnd = some (.b true) := by
  match q, hq with
  | 0, _ => exact c3_8_0
  | 1, _ => exact c3_8_1
  | 2, _ => exact c3_8_2
  | 3, _ => exact c3_8_3
  | 4, _ => exact c3_8_4
  | 5, _ => exact c3_8_5
  | 6, _ => exact c3_8_6
  | 7, _ => exact c3_8_7
  | 8, _ => exact c3_8_8
  | q + 9, hq => exact absurd hq (by omega)
theorem all3_9 (q : Nat) (hq : q < 10) : cfY 200 3 [vN 9, vN q] .e n0 kEnd = some (.b true) := by
  match q, hq with
  | 0, _ => exact c3_9_0
  | 1, _ => exact c3_9_1
  | 2, _ => exact c3_9_2
  | 3, _ => exact c3_9_3
  | 4, _ => exact c3_9_4
  | 5, _ => exact c3_9_5
  | 6, _ => exact c3_9_6
  | 7, _ => exact c3_9_7
  | 8, _ => exact c3_9_8
  | 9, _ => exact c3_9_9
  | q + 10, hq => exact absurd hq (by omega)
theorem all3_10 (q : Nat) (hq : q < 11) : cfY 200 3 [vN 10, vN q] .e n0 kEnd = some (.b true) := by
  match q, hq with
  | 0, _ => exact c3_10_0
  | 1, _ => exact c3_10_1
  | 2, _ => exact c3_10_2
  | 3, _ => exact c3_10_3
  | 4, _ => exact c3_10_4
  | 5, _ => exact c3_10_5
  | 6, _ => exact c3_10_6
  | 7, _ => exact c3_10_7
  | 8, _ => exact c3_10_8
  | 9, _ => exact c3_10_9
  | 10, _ => exact c3_10_10
  | q + 11, hq => exact absurd hq (by omega)
theorem all3_11 (q : Nat) (hq : q < 12) : cfY 200 3 [vN 11, vN q] .e n0 kEnd = some (.b true) := by
  match q, hq with
  | 0, _ => exact c3_11_0
  | 1, _ => exact c3_11_1
  | 2, _ => exact c3_11_2
  | 3, _ => exact c3_11_3
  | 4, _ => exact c3_11_4
  | 5, _ => exact c3_11_5
  | 6, _ => exact c3_11_6
  | 7, _ => exact c3_11_7
  | 8, _ => exact c3_11_8
  | 9, _ => exact c3_11_9
  | 10, _ => exact c3_11_10
  | 11, _ => exact c3_11_11
  | q + 12, hq => exact absurd hq (by omega)
theorem all3_12 (q : Nat) (hq : q < 13) : cfY 200 3 [vN 12, vN q] .e n0 kEnd = some (.b true) := by
  match q, hq with
  | 0, _ => exact c3_12_0
  | 1, _ => exact c3_12_1
  | 2, _ => exact c3_12_2
  | 3, _ => exact c3_12_3
  | 4, _ => exact c3_12_4
  | 5, _ => exact c3_12_5
  | 6, _ => exact c3_12_6
  | 7, _ => exact c3_12_7
  | 8, _ => exact c3_12_8
  | 9, _ => exact c3_12_9
  | 10, _ => exact c3_12_10
  | 11, _ => exact c3_12_11
  | 12, _ => exact c3_12_12
  | q + 13, hq => exact absurd hq (by omega)
theorem all3_13 (q : Nat) (hq : q < 14) : cfY 200 3 [vN 13, vN q] .e n0 kEnd = some (.b true) := by
  match q, hq with
  | 0, _ => exact c3_13_0
  | 1, _ => exact c3_13_1
  | 2, _ => exact c3_13_2
  | 3, _ => exact c3_13_3
  | 4, _ => exact c3_13_4
  | 5, _ => exact c3_13_5
  | 6, _ => exact c3_13_6
  | 7, _ => exact c3_13_7
  | 8, _ => exact c3_13_8
  | 9, _ => exact c3_13_9
  | 10, _ => exact c3_13_10
  | 11, _ => exact c3_13_11
  | 12, _ => exact c3_13_12
  | 13, _ => exact c3_13_13
  | q + 14, hq => exact absurd hq (by omega)
theorem any3 (i j : Int) : cfY 200 3 [.i .i64 i, .i .i64 j] .e n0 kEnd = some (.b true) := by
  have e : ∀ vs h n k, cfY 200 3 vs h n k = w2 (s3 fuX) (cfY 199) vs h n k := fun vs h n k => by kernel_rfl
  have hl : uN i % 14 < 14 := Nat.mod_lt _ (by omega)
  rcases (by omega : uN i % 14 = 0 ∨ uN i % 14 = 1 ∨ uN i % 14 = 2 ∨ uN i % 14 = 3 ∨ uN i % 14 = 4 ∨ uN i % 14 = 5 ∨ uN i % 14 = 6 ∨ uN i % 14 = 7 ∨ uN i % 14 = 8 ∨ uN i % 14 = 9 ∨ uN i % 14 = 10 ∨ uN i % 14 = 11 ∨ uN i % 14 = 12 ∨ uN i % 14 = 13) with hr | hr | hr | hr | hr | hr | hr | hr | hr | hr | hr | hr | hr | hr
  · rw [e, wv2, s3_r0 _ _ i j hr, ← wv2 (s3 fuX), ← e]
    exact all3_0 _ (Nat.mod_lt _ (by omega))
  · rw [e, wv2, s3_r1 _ _ i j hr, ← wv2 (s3 fuX), ← e]
    exact all3_1 _ (Nat.mod_lt _ (by omega))
  · rw [e, wv2, s3_r2 _ _ i j hr, ← wv2 (s3 fuX), ← e]
    exact all3_2 _ (Nat.mod_lt _ (by omega))
  · rw [e, wv2, s3_r3 _ _ i j hr, ← wv2 (s3 fuX), ← e]
    exact all3_3 _ (Nat.mod_lt _ (by omega))
  · rw [e, wv2, s3_r4 _ _ i j hr, ← wv2 (s3 fuX), ← e]
    exact all3_4 _ (Nat.mod_lt _ (by omega))
  · rw [e, wv2, s3_r5 _ _ i j hr, ← wv2 (s3 fuX), ← e]
    exact all3_5 _ (Nat.mod_lt _ (by omega))
  · rw [e, wv2, s3_r6 _ _ i j hr, ← wv2 (s3 fuX), ← e]
    exact all3_6 _ (Nat.mod_lt _ (by omega))
  · rw [e, wv2, s3_r7 _ _ i j hr, ← wv2 (s3 fuX), ← e]
    exact all3_7 _ (Nat.mod_lt _ (by omega))
  · rw [e, wv2, s3_r8 _ _ i j hr, ← wv2 (s3 fuX), ← e]
    exact all3_8 _ (Nat.mod_lt _ (by omega))
  · rw [e, wv2, s3_r9 _ _ i j hr, ← wv2 (s3 fuX), ← e]
    exact all3_9 _ (Nat.mod_lt _ (by omega))
  · rw [e, wv2, s3_r10 _ _ i j hr, ← wv2 (s3 fuX), ← e]
    exact all3_10 _ (Nat.mod_lt _ (by omega))
  · rw [e, wv2, s3_r11 _ _ i j hr, ← wv2 (s3 fuX), ← e]
    exact all3_11 _ (Nat.mod_lt _ (by omega))
  · rw [e, wv2, s3_r12 _ _ i j hr, ← wv2 (s3 fuX), ← e]
    exact all3_12 _ (Nat.mod_lt _ (by omega))
  · rw [e, wv2, s3_r13 _ _ i j hr, ← wv2 (s3 fuX), ← e]
    exact all3_13 _ (Nat.mod_lt _ (by omega))
theorem run3 (i j : Int) {W : World} (hG : Gi W) : Calls Tryz.prog 3 #[.int .i64 i, .int .i64 j] W fun e W' => e = .returned (.bool true) ∧ Below W.heap.size W W' :=
  law_run (us := [.int .i64 i, .int .i64 j]) (vs := [.i .i64 i, .i .i64 j]) (by kernel_rfl) (cfY_ok 200 3) (any3 i j) hG ⟨_, _, rfl, rfl, ⟨_, _, rfl, rfl, rfl⟩⟩
end Go.Proofs.Nw.X
end
