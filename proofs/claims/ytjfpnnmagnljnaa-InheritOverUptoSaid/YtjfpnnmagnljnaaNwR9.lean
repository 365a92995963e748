/- The law InheritOver: for every input of bulk at most 1048576 the call returns true and each argument reads behind it as it read before. Conditions: those of the row. -/
import Derived.Test.YtjfpnnmagnljnaaNwA10
import Derived.Test.YtjfpnnmagnljnaaRows
import Derived.WalkKit
import Derived.ProofKit
import Derived.OpenShut
import Derived.ShutString
import Derived.ChangeOld
import Derived.Below
import Derived.Carry
import Derived.JoinedCond
import Derived.SizedLaws
namespace Go.Proofs.Ytjfpnnmagnljnaa.inheritOver
open Go.ChangeShapes Go.WideShapes Go.ChangeAt Go.RowKit Go.Proofs.Nw.K
set_option linter.unusedVariables false
theorem own : ownKnob Try.prog.godebug = none := by kernel_rfl
theorem laidOut : laidOutB Try.prog = true := by kernel_rfl
mutual
theorem bulk_eq {H : Type} : ∀ d : DataW H, bulk d = Rows.uptoBulk d
  | .lit (.string b) => by simp only [bulk, Rows.uptoBulk]
  | .lit (.bool b) => by simp only [bulk, Rows.uptoBulk]
  | .lit (.int k n) => by simp only [bulk, Rows.uptoBulk]
  | .lit (.float k n) => by simp only [bulk, Rows.uptoBulk]
  | .lit .nil => by simp only [bulk, Rows.uptoBulk]
  | .nil => by simp only [bulk, Rows.uptoBulk]
  | .ptr d => by simp only [bulk, Rows.uptoBulk, bulk_eq d]
  | .slice a b => by simp only [bulk, Rows.uptoBulk, bulkAll_eq a, bulkAll_eq b]
  | .agg a => by simp only [bulk, Rows.uptoBulk, bulkAll_eq a]
  | .iface n d => by simp only [bulk, Rows.uptoBulk, bulk_eq d]
  | .map es => by simp only [bulk, Rows.uptoBulk, bulkEntries_eq es]
  | .held h => by simp only [bulk, Rows.uptoBulk]
theorem bulkAll_eq {H : Type} : ∀ d : List (DataW H), bulkAll d = Rows.uptoBulkAll d
  | [] => by simp only [bulkAll, Rows.uptoBulkAll]
  | d :: r => by simp only [bulkAll, Rows.uptoBulkAll, bulk_eq d, bulkAll_eq r]
theorem bulkEntries_eq {H : Type} : ∀ d : List (Lit × DataW H), bulkEntries d = Rows.uptoBulkEntries d
  | [] => by simp only [bulkEntries, Rows.uptoBulkEntries]
  | d :: r => by simp only [bulkEntries, Rows.uptoBulkEntries, bulkEntry_eq d, bulkEntries_eq r]
theorem bulkEntry_eq {H : Type} : ∀ d : Lit × DataW H, bulkEntry d = Rows.uptoBulkEntry d
  | (.string b, d) => by simp only [bulkEntry, Rows.uptoBulkEntry, bulk_eq d]
  | (.bool b, d) => by simp only [bulkEntry, Rows.uptoBulkEntry, bulk_eq d]
  | (.int k n, d) => by simp only [bulkEntry, Rows.uptoBulkEntry, bulk_eq d]
  | (.float k n, d) => by simp only [bulkEntry, Rows.uptoBulkEntry, bulk_eq d]
  | (.nil, d) => by simp only [bulkEntry, Rows.uptoBulkEntry, bulk_eq d]
end
set_option maxRecDepth 100000 in
theorem contract (H : Type) (enc : TypeId × Value → H) (W : World) (base : Nat) (args : Array Value) (ds gs : List (DataW H)) (before : List MemPlace)
    (hval : ∀ (j : Nat) t v, Try.f9.params[j]? = some t → args[j]? = some v → Value.okWide Try.prog W .any base t v)
    (hW : DataW.Whole enc Try.prog Try.f9.params.toList Rows.inheritOverSpec.vars false W args.toList ds gs before) (hk : Rows.uptoSmall H (ds ++ gs) = true) :
    Calls Try.prog 9 args W fun e W' => ∃ v, e = .returned v ∧ Rows.inheritOverSpec.post enc Try.prog Try.f9 false true false false W args v W' := by
  have hk : Rows.uptoBulkAll (ds ++ gs) ≤ 1048576 := of_decide_eq_true hk
  have hW' := hW
  obtain ⟨p, q, hA0, hV, rfl, hfz, hnd⟩ := hW
  have hA : DataW.TrodAll enc Try.prog W 0 (fun _ => true) true Try.f9.params.toList args.toList ds p := hA0
  rw [Try.params9] at hA hval
  obtain ⟨v0, vs0, d0, ds0, p0, q0, hargs, rfl, rfl, h0, r0⟩ := trodAll_cons hA
  obtain ⟨v1, vs1, d1, ds1, p1, q1, rfl, rfl, rfl, h1, r1⟩ := trodAll_cons r0
  obtain ⟨v2, vs2, d2, ds2, p2, q2, rfl, rfl, rfl, h2, r2⟩ := trodAll_cons r1
  obtain ⟨rfl, rfl, rfl⟩ := trodAll_nil r2
  obtain rfl : args = #[v0, v1, v2] := by cases args; simp_all
  obtain ⟨rfl, rfl⟩ := trodVars_none hV
  have hsum : bulk d0 + bulk d1 + bulk d2 ≤ 1048576 := by
    simp only [List.append_nil, Rows.uptoBulkAll] at hk
    simp only [bulk_eq]; omega
  obtain ⟨a0, e0, wt0, ok0⟩ := open_Coord.arg h0
  have k0 := h0
  have lt0 : ∀ x ∈ p0, x.block < W.heap.size := by obtain ⟨m, hm⟩ := k0; exact DataW.trod_lt m _ _ _ hm
  obtain ⟨c0, rfl, hc0⟩ := okWide_struct Try.underlying23 (hval 0 23 v0 rfl rfl)
  obtain ⟨a1, e1, wt1, ok1⟩ := open_Pom.arg h1
  have k1 := h1
  have lt1 : ∀ x ∈ p1, x.block < W.heap.size := by obtain ⟨m, hm⟩ := k1; exact DataW.trod_lt m _ _ _ hm
  obtain ⟨c1, rfl, hc1⟩ := okWide_struct Try.underlying55 (hval 1 55 v1 rfl rfl)
  obtain ⟨a2, e2, wt2, ok2⟩ := open_Pom.arg h2
  have k2 := h2
  have lt2 : ∀ x ∈ p2, x.block < W.heap.size := by obtain ⟨m, hm⟩ := k2; exact DataW.trod_lt m _ _ _ hm
  obtain ⟨c2, rfl, hc2⟩ := okWide_struct Try.underlying55 (hval 2 55 v2 rfl rfl)
  clear hA0
  refine ((Impl.law (InheritOver_impl a0 a1 a2 ok0 ok1 ok2 (Nat.le_trans (Nat.add_le_add (Nat.add_le_add wt0 wt1) wt2) hsum)) (W := W) (vs := [_, _, _]) (RepVs.cons (RepL.to_agg (by simpa only [Value.cells] using e0)) (RepVs.cons (RepL.to_agg (by simpa only [Value.cells] using e1)) (RepVs.cons (RepL.to_agg (by simpa only [Value.cells] using e2)) RepVs.nil))))).mono fun e W' ⟨he, bel⟩ => ?_
  subst he
  exact ⟨_, rfl, _, _, _, [], _, [], hW', trodAll_mk1 (shut_bool Try.underlying4 _), (trodAll_cons_mk (Below.trod laidOut (by kernel_rfl) (of_decide_eq_true (by kernel_rfl)) k0 bel lt0) (trodAll_cons_mk (Below.trod laidOut (by kernel_rfl) (of_decide_eq_true (by kernel_rfl)) k1 bel lt1) (trodAll_cons_mk (Below.trod laidOut (by kernel_rfl) (of_decide_eq_true (by kernel_rfl)) k2 bel lt2) trodAll_mk0))), rfl, bel.frame _, fun h => by cases h⟩
set_option maxRecDepth 100000 in
theorem lifted (os : Os) (started : os.Started) (H : Type) (enc : TypeId × Value → H) (F : Stop.Interp) :
    ReturnsInHanded {} Try.checked os 9 .any ((Rows.OpenSpec.upto Rows.inheritOverSpec).pre6 enc Try.prog Try.f9 Rows.inheritOverUptoRow.domain false) (((Rows.OpenSpec.upto Rows.inheritOverSpec).at F).post enc Try.prog Try.f9 false true false false) := by
  refine returnsInHanded_of_cond (C := Try.checked) (s := Rows.OpenSpec.upto Rows.inheritOverSpec) (k := Rows.uptoSmall) rfl own started (by kernel_rfl) Try.func9
    (OpenSpec.witness (enc := enc) (C := Try.checked) (s := Rows.OpenSpec.upto Rows.inheritOverSpec) (k := Rows.uptoSmall) rfl false ⟨#[], #[.agg #[.string ByteArray.empty, .string ByteArray.empty, .string ByteArray.empty], .agg #[.string ByteArray.empty, .string ByteArray.empty, .string ByteArray.empty, .string ByteArray.empty, .string ByteArray.empty, .string ByteArray.empty, .string ByteArray.empty, .slice none 0 0, .slice none 0 0, .slice none 0 0], .agg #[.string ByteArray.empty, .string ByteArray.empty, .string ByteArray.empty, .string ByteArray.empty, .string ByteArray.empty, .string ByteArray.empty, .string ByteArray.empty, .slice none 0 0, .slice none 0 0, .slice none 0 0]], []⟩ 8 (by kernel_rfl) (by kernel_rfl) (by kernel_rfl)
      (x := ([.agg [.lit (.string []), .lit (.string []), .lit (.string [])], .agg [.agg [.lit (.string []), .lit (.string []), .lit (.string [])], .lit (.string []), .lit (.string []), .lit (.string []), .lit (.string []), .nil, .nil, .nil], .agg [.agg [.lit (.string []), .lit (.string []), .lit (.string [])], .lit (.string []), .lit (.string []), .lit (.string []), .lit (.string []), .nil, .nil, .nil]], [], [])) (by kernel_rfl) rfl (by kernel_rfl)) ?_
  intro W base args ds gs before hval hW _ hk _
  exact contract H enc W base args ds gs before hval hW hk
theorem over : Rows.inheritOverUptoRow.holds Try.pinned (Rows.OpenSpec.upto Rows.inheritOverSpec) :=
  OpenClaim.holds_of_cond 9 Try.f9 rfl rfl rfl rfl rfl rfl rfl ⟨rfl, rfl, rfl, rfl, rfl⟩ rfl rfl rfl rfl rfl (by kernel_rfl) Try.func9 (by kernel_rfl)
    (of_decide_eq_true (by kernel_rfl)) (by unfold Func.isWrapper; first | (rw [if_pos (by decide +kernel)]; kernel_rfl) | (rw [if_neg (by decide +kernel)]; exact ⟨rfl, rfl⟩))
    (fun os started H enc _ F => lifted os started H enc F)
theorem proved : Rows.InheritOverUptoSaid := over
end Go.Proofs.Ytjfpnnmagnljnaa.inheritOver
namespace Go.Proofs.Ytjfpnnmagnljnaa
/-- The row, under a short name, for the claim. -/
theorem inheritOver_holds : Rows.InheritOverUptoSaid := inheritOver.proved
#print axioms inheritOver_holds
end Go.Proofs.Ytjfpnnmagnljnaa
