/- Bundle 15: NwXR, NwX7D0, NwX7D1, NwX7D2, NwX7D3, NwX7D. -/
import Derived.Test.YtbooikopklijdaaGreatDoorNwG14
import Derived.Below
set_option linter.constructorNameAsVariable false
set_option linter.unusedVariables false
set_option linter.unusedSimpArgs false
set_option linter.unusedSectionVars false
section
/- XR: from the evaluator's word to a call from whatever world. -/
open Go Go.RowKit Go.Proofs
namespace Go.Proofs.Nw.X
open Go.Proofs.Nw.K
noncomputable abbrev n0 : Id := [.a, .a, .a, .a, .a, .a, .a, .a]
noncomputable abbrev kEnd : KV := fun v _ _ => some v
theorem HR.begin {W : World} (hG : Gi W) : HR { w := W, pr := fun b => b < W.heap.size, lt := fun _ h => h, gp := hG.pos, gi := hG } (fun _ => none) .e n0 W where
  below := ⟨rfl, rfl, rfl, Nat.le_refl _, fun _ _ => rfl⟩
  len := rfl
  dom := fun o pl h => by cases h
  inj := fun o o' pl pl' _ _ h => by cases h
  obj := fun o pl x h => by cases h
  rsv := fun o pl h => by cases h
  lo := Nat.zero_le _
theorem law_run {P : Program} {f : FuncId} {g : Fn1} (hc : callable P f = true) (h : Sd P f g) {vs : List V} {us : List Value} (hv : g vs .e n0 kEnd = some (.b true)) {W : World} (hG : Gi W) (hu : RVs (fun _ => none) vs us) :
    Calls P f us.toArray W fun e W' => e = .returned (.bool true) ∧ Below W.heap.size W W' := by
  obtain ⟨v, h', n', h1, h2⟩ := h vs .e n0 kEnd _ hv
  have h3 := h2 _ _ W us (HR.begin hG) hu
  rw [callFunc_run hc _ W] at h3
  refine Calls.mono h3 fun e W' ⟨u, he, ι', _, hb, hr⟩ => ?_
  obtain rfl : v = .b true := Option.some.inj h1
  obtain rfl : u = .bool true := hr
  exact ⟨he, hb.below.os, hb.below.tape, hb.below.output, hb.below.size, fun k hk => hb.below.block k hk⟩
def uN : Int → Nat
  | .ofNat m => m % 18446744073709551616
  | .negSucc m => 18446744073709551615 - m % 18446744073709551616
noncomputable abbrev vN (m : Nat) : V := .i .i64 (.ofNat m)
theorem uN_nat {m : Nat} (h : m < 18446744073709551616) : uN (.ofNat m) = m := Nat.mod_eq_of_lt h
end Go.Proofs.Nw.X
end
section
/- printed by xl.py: function 7 counts the rest by 9. -/
open Go Go.RowKit Go.Proofs
set_option maxRecDepth 100000
namespace Go.Proofs.Nw.X
open Go.Proofs.Nw.K
theorem conv_u (i : Int) (h : H) (n : Id) (k : KV) : evConv2 tbx mtab 3 22 (.i .i64 i) h n k = k (.i .u64 (.ofNat (uN i))) h n := by
  have e : evConv2 tbx mtab 3 22 (.i .i64 i) h n k = fI (wrapK .u64 i) fun r => k (.i .u64 r) h n := by kernel_rfl
  rw [e, fI_eq]
  cases i <;> rfl
theorem rem_u (a : Nat) (kk : KP) : evBin2 tbx .rem 22 (.i .u64 (.ofNat a)) (.i .u64 9) kk = kk (.i .u64 (.ofNat (a % 9))) := by
  have e : evBin2 tbx .rem 22 (.i .u64 (.ofNat a)) (.i .u64 9) kk = fI (Int.tmod (.ofNat a) (.ofNat 9)) fun r => kk (.i .u64 r) := by kernel_rfl
  rw [e, fI_eq]
  rfl
noncomputable def t7 (rm : H → Id → KV → R) (fu : Nat) (cf : CF) (a0 : V) (h : H) (n : Id) (k : KV) : R :=
 evBuild tbx 51 [(0, (.s 1 103)), (1, (.s 1 98)), (2, (.s 1 49))] fun v1 =>
 evAlloc tbx 51 h n fun v2 h n =>
 evStore tbx 51 v2 v1 h n fun _ h n =>
 rm h n fun v4 h n =>
 jp (fun (s5 : VT [3, 4]) h n => pc s5 fun v7 s8 => pc s8 fun v9 s10 => evLoad tbx 51 v7 h fun v11 =>
 evBuildSl tbx 30 1 [(0, v11)] h n fun v12 h n =>
 evBuild tbx 32 [(1, (.s 1 103)), (2, (.s 1 97)), (3, (.s 1 49)), (7, v12)] fun v13 =>
 cf 18 [v13] h n fun v14 h n => evExt 0 v14 fun v15 => evExt 1 v14 fun v16 =>
 evBuild tbx 24 [(0, (.s 1 103)), (1, (.s 1 97)), (2, (.s 1 49))] fun v17 =>
 evAlloc tbx 24 h n fun v18 h n =>
 evStore tbx 24 v18 v17 h n fun _ h n => evLoad tbx 24 v18 h fun v19 =>
 evBuild tbx 37 [(0, v19), (1, v15)] fun v20 =>
 evBuildSl tbx 28 1 [(0, v20)] h n fun v21 h n =>
 cf 23 [v21] h n fun v22 h n => evExt 0 v22 fun v23 => evExt 1 v22 fun v24 => evLoad tbx 24 v18 h fun v25 =>
 cf 24 [v23, v25] h n fun v26 h n => evExt 0 v26 fun v27 => evExt 1 v26 fun v28 =>
 evAlloc tbx 32 h n fun v29 h n =>
 evStore tbx 32 v29 v27 h n fun _ h n =>
 cf 25 [] h n fun v30 h n =>
 jp (fun (v31 : V) h n =>
 jp (fun (v33 : V) h n =>
 jp (fun (v35 : V) h n => evPick v30 v35 (.b false) fun v37 =>
 jp (fun (v38 : V) h n =>
 jp (fun (v40 : V) h n =>
 jp (fun (v42 : V) h n =>
 jp (fun (v44 : V) h n =>
 jp (fun (v46 : V) h n =>
 jp (fun (v48 : V) h n =>
 jp (fun (v50 : V) h n => evPick v37 v50 (.b false) fun v52 =>
 k v52 h n) fun kk51 =>
 gdB v37 true ((evBin2 tbx .eql 4 v40 v48 fun v => kk51 v h n)) (kk51 (.tp []) h n)) fun kk49 =>
 gdB v37 true ((evBin2 tbx .eql 3 v46 (.i .i64 1) fun v => kk49 v h n)) (kk49 (.tp []) h n)) fun kk47 =>
 gdB v37 true ((evLen tbx 30 v44 fun v => kk47 v h n)) (kk47 (.tp []) h n)) fun kk45 =>
 gdB v37 true ((evLoad tbx 30 v42 h fun v => kk45 v h n)) (kk45 (.tp []) h n)) fun kk43 =>
 gdB v37 true ((evFa tbx 32 7 v29 fun v => kk43 v h n)) (kk43 (.tp []) h n)) fun kk41 =>
 gdB v37 true ((evBin2 tbx .eql 33 v38 (.i .i64 0) fun v => kk41 v h n)) (kk41 (.tp []) h n)) fun kk39 =>
 gdB v37 true (kk39 v28 h n) (kk39 (.tp []) h n)) fun kk36 =>
 gdB v30 true ((evBin2 tbx .eql 33 v31 v33 fun v => kk36 v h n)) (kk36 (.tp []) h n)) fun kk34 =>
 gdB v30 true (kk34 v9 h n) (kk34 (.tp []) h n)) fun kk32 =>
 gdB v30 true (kk32 v28 h n) (kk32 (.tp []) h n)) fun kk6 => evBin2 tbx .eql 22 v4 (.i .u64 0) fun v53 =>
 brB v53 ( evFa tbx 51 2 v2 fun v54 =>
 evStore tbx 9 v54 (.s 0 0) h n fun _ h n =>
 kk6 (v2, (.i .i64 11), ()) h n) ( evBin2 tbx .eql 22 v4 (.i .u64 1) fun v55 =>
 brB v55 ( evFa tbx 51 2 v2 fun v56 =>
 evStore tbx 9 v56 (.s 4 612071549) h n fun _ h n =>
 kk6 (v2, (.i .i64 17), ()) h n) ( evBin2 tbx .eql 22 v4 (.i .u64 2) fun v57 =>
 brB v57 ( evFa tbx 51 5 v2 fun v58 =>
 evStore tbx 9 v58 (.s 6 115918758703732) h n fun _ h n =>
 kk6 (v2, (.i .i64 19), ()) h n) ( evBin2 tbx .eql 22 v4 (.i .u64 3) fun v59 =>
 brB v59 ( evFa tbx 51 5 v2 fun v60 =>
 evStore tbx 9 v60 (.s 6 126965465245037) h n fun _ h n =>
 kk6 (v2, (.i .i64 19), ()) h n) ( evBin2 tbx .eql 22 v4 (.i .u64 4) fun v61 =>
 brB v61 ( evFa tbx 51 1 v2 fun v62 =>
 evStore tbx 9 v62 (.s 3 6430819) h n fun _ h n =>
 kk6 (v2, (.i .i64 10), ()) h n) ( evBin2 tbx .eql 22 v4 (.i .u64 5) fun v63 =>
 brB v63 ( evFa tbx 51 2 v2 fun v64 =>
 evStore tbx 9 v64 (.s 5 391683780957) h n fun _ h n =>
 kk6 (v2, (.i .i64 12), ()) h n) ( evBin2 tbx .eql 22 v4 (.i .u64 6) fun v65 =>
 brB v65 ( evFa tbx 51 2 v2 fun v66 =>
 evStore tbx 9 v66 (.s 3 3219506) h n fun _ h n =>
 kk6 (v2, (.i .i64 11), ()) h n) ( evBin2 tbx .eql 22 v4 (.i .u64 7) fun v67 =>
 brB v67 ( evFa tbx 51 4 v2 fun v68 =>
 evStore tbx 9 v68 (.s 1 42) h n fun _ h n =>
 kk6 (v2, (.i .i64 10), ()) h n) (
 kk6 (v2, (.i .i64 0), ()) h n))))))))
noncomputable def rm7 (i : Int) : H → Id → KV → R := fun h n k => evConv2 tbx mtab 3 22 (.i .i64 i) h n fun v h n => evBin2 tbx .rem 22 v (.i .u64 9) fun v => k v h n
theorem rm7_eq (i : Int) : rm7 i = rm7 (.ofNat (uN i % 9)) := by
  funext h n k
  unfold rm7
  rw [conv_u, conv_u, rem_u, rem_u, uN_nat (Nat.lt_trans (Nat.mod_lt _ (by omega)) (by omega : 9 < 18446744073709551616)), Nat.mod_mod]
theorem s7_t (fu : Nat) (cf : CF) (i : Int) (h : H) (n : Id) (k : KV) : s7 fu cf (.i .i64 i) h n k = t7 (rm7 i) fu cf (.i .i64 i) h n k := by kernel_rfl
theorem t7_n (rm : H → Id → KV → R) (fu : Nat) (cf : CF) (x y : V) (h : H) (n : Id) (k : KV) : t7 rm fu cf x h n k = t7 rm fu cf y h n k := by kernel_rfl
theorem s7_r (fu : Nat) (cf : CF) (i : Int) (h : H) (n : Id) (k : KV) : s7 fu cf (.i .i64 i) h n k = s7 fu cf (vN (uN i % 9)) h n k := by
  rw [s7_t, rm7_eq, s7_t]
  exact t7_n _ _ _  _ _ _ _ _
theorem s7_c (cf : CF) (i : Int) : w1 (s7 fuX) cf [(.i .i64 i)] .e n0 kEnd = w1 (s7 fuX) cf [vN (uN i % 9)] .e n0 kEnd := s7_r fuX cf  i .e n0 kEnd
end Go.Proofs.Nw.X
end
section
/- printed by xl.py: cases of function 7, 1. -/
open Go Go.RowKit Go.Proofs
set_option maxRecDepth 100000
namespace Go.Proofs.Nw.X
open Go.Proofs.Nw.K
theorem c7_0 : cfX 200 7 [vN 0] .e n0 kEnd = some (.b true) := by kernel_rfl
theorem c7_1 : cfX 200 7 [vN 1] .e n0 kEnd = some (.b true) := by kernel_rfl
theorem c7_2 : cfX 200 7 [vN 2] .e n0 kEnd = some (.b true) := by kernel_rfl
end Go.Proofs.Nw.X
end
section
/- printed by xl.py: cases of function 7, 2. -/
open Go Go.RowKit Go.Proofs
set_option maxRecDepth 100000
namespace Go.Proofs.Nw.X
open Go.Proofs.Nw.K
theorem c7_3 : cfX 200 7 [vN 3] .e n0 kEnd = some (.b true) := by kernel_rfl
theorem c7_4 : cfX 200 7 [vN 4] .e n0 kEnd = some (.b true) := by kernel_rfl
theorem c7_5 : cfX 200 7 [vN 5] .e n0 kEnd = some (.b true) := by kernel_rfl
end Go.Proofs.Nw.X
end
section
/- printed by xl.py: cases of function 7, 3. -/
open Go Go.RowKit Go.Proofs
set_option maxRecDepth 100000
namespace Go.Proofs.Nw.X
open Go.Proofs.Nw.K
theorem c7_6 : cfX 200 7 [vN 6] .e n0 kEnd = some (.b true) := by kernel_rfl
theorem c7_7 : cfX 200 7 [vN 7] .e n0 kEnd = some (.b true) := by kernel_rfl
theorem c7_8 : cfX 200 7 [vN 8] .e n0 kEnd = some (.b true) := by kernel_rfl
end Go.Proofs.Nw.X
end
section
/- printed by xl.py: function 7 returns true. -/
open Go Go.RowKit Go.Proofs
set_option maxRecDepth 100000
namespace Go.Proofs.Nw.X
open Go.Proofs.Nw.K
theorem all7 (r : Nat) (hr : r < 9) : cfX 200 7 [vN r] .e n0 kEnd = some (.b true) := by
  match r, hr with
  | 0, _ => exact c7_0
  | 1, _ => exact c7_1
  | 2, _ => exact c7_2
  | 3, _ => exact c7_3
  | 4, _ => exact c7_4
  | 5, _ => exact c7_5
  | 6, _ => exact c7_6
  | 7, _ => exact c7_7
  | 8, _ => exact c7_8
  | r + 9, hr => exact absurd hr (by omega)
theorem run7 (i : Int) {W : World} (hG : Gi W) : Calls Tryz.prog 7 #[.int .i64 i] W fun e W' => e = .returned (.bool true) ∧ Below W.heap.size W W' := by
  have e : ∀ vs h n k, cfX 200 7 vs h n k = w1 (s7 fuX) (cfX 199) vs h n k := fun vs h n k => by kernel_rfl
  refine law_run (us := [.int .i64 i]) (vs := [(.i .i64 i)]) (by kernel_rfl) (cfX_ok 200 7) ?_ hG ?_
  · rw [e, s7_c, ← e]; exact all7 _ (Nat.mod_lt _ (by omega))
  · exact ⟨_, _, rfl, rfl, rfl⟩
end Go.Proofs.Nw.X
end
