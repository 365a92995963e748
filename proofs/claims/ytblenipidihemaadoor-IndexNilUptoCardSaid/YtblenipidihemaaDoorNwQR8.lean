/- The law IndexNil: for every input of bulk at most 1048576 the call returns true and each argument reads behind it as it read before. Conditions: those of the row. -/
import Derived.Test.YtblenipidihemaaDoorNwA14
import Derived.Test.YtblenipidihemaaDoorCards
import Derived.Test.YtblenipidihemaaDoorTie
import Derived.WalkKit
import Derived.ProofKit
import Derived.OpenShut
import Derived.ShutString
import Derived.ChangeOld
import Derived.Below
import Derived.Carry
import Derived.JoinedCond
import Derived.SizedLaws
import Derived.Deep.DeepHandedRow
import Derived.Lib.LaidTab
namespace Go.Proofs.YtblenipidihemaaDoor.indexNil
open Go.ChangeShapes Go.WideShapes Go.ChangeAt Go.RowKit Go.Proofs.Nw.K
set_option linter.unusedVariables false
theorem own : ownKnob Tryd.prog.godebug = none := by kernel_rfl
theorem laidOut : laidOutB Tryd.prog = true := by kernel_rfl
mutual
theorem bulk_eq {H : Type} : ∀ d : DataW H, bulk d = Rows.uptoBulk d
  | .lit (.string b) => by simp only [bulk, Rows.uptoBulk]
  | .lit (.bool b) => by simp only [bulk, Rows.uptoBulk]
  | .lit (.int k n) => by simp only [bulk, Rows.uptoBulk]
  | .lit (.float k n) => by simp only [bulk, Rows.uptoBulk]
  | .lit .nil => by simp only [bulk, Rows.uptoBulk]
  | .nil => by simp only [bulk, Rows.uptoBulk]
  | .ptr d => by simp only [bulk, Rows.uptoBulk, bulk_eq d]
  | .slice a b => by simp only [bulk, Rows.uptoBulk, bulkAll_eq a, bulkAll_eq b]
  | .agg a => by simp only [bulk, Rows.uptoBulk, bulkAll_eq a]
  | .iface n d => by simp only [bulk, Rows.uptoBulk, bulk_eq d]
  | .map es => by simp only [bulk, Rows.uptoBulk, bulkEntries_eq es]
  | .held h => by simp only [bulk, Rows.uptoBulk]
theorem bulkAll_eq {H : Type} : ∀ d : List (DataW H), bulkAll d = Rows.uptoBulkAll d
  | [] => by simp only [bulkAll, Rows.uptoBulkAll]
  | d :: r => by simp only [bulkAll, Rows.uptoBulkAll, bulk_eq d, bulkAll_eq r]
theorem bulkEntries_eq {H : Type} : ∀ d : List (Lit × DataW H), bulkEntries d = Rows.uptoBulkEntries d
  | [] => by simp only [bulkEntries, Rows.uptoBulkEntries]
  | d :: r => by simp only [bulkEntries, Rows.uptoBulkEntries, bulkEntry_eq d, bulkEntries_eq r]
theorem bulkEntry_eq {H : Type} : ∀ d : Lit × DataW H, bulkEntry d = Rows.uptoBulkEntry d
  | (.string b, d) => by simp only [bulkEntry, Rows.uptoBulkEntry, bulk_eq d]
  | (.bool b, d) => by simp only [bulkEntry, Rows.uptoBulkEntry, bulk_eq d]
  | (.int k n, d) => by simp only [bulkEntry, Rows.uptoBulkEntry, bulk_eq d]
  | (.float k n, d) => by simp only [bulkEntry, Rows.uptoBulkEntry, bulk_eq d]
  | (.nil, d) => by simp only [bulkEntry, Rows.uptoBulkEntry, bulk_eq d]
end
set_option maxRecDepth 100000 in
theorem contract (H : Type) (enc : TypeId × Value → H) (W : World) (base : Nat) (args : Array Value) (ds gs : List (DataW H)) (before : List MemPlace)
    (hval : ∀ (j : Nat) t v, Tryd.f11.params[j]? = some t → args[j]? = some v → Value.okWide Tryd.prog W .any base t v)
    (hW : DataW.Whole enc Tryd.prog Tryd.f11.params.toList Rows.indexNilSpec.vars false W args.toList ds gs before) (hk : Rows.uptoSmall H (ds ++ gs) = true) :
    Calls Tryd.prog 11 args W fun e W' => ∃ v, e = .returned v ∧ Rows.indexNilSpec.post enc Tryd.prog Tryd.f11 false true false false W args v W' := by
  have hk : Rows.uptoBulkAll (ds ++ gs) ≤ 1048576 := of_decide_eq_true hk
  have hW' := hW
  obtain ⟨p, q, hA0, hV, rfl, hfz, hnd⟩ := hW
  have hA : DataW.TrodAll enc Tryd.prog W 0 (fun _ => true) true Tryd.f11.params.toList args.toList ds p := hA0
  rw [Tryd.params11] at hA hval
  obtain ⟨v0, vs0, d0, ds0, p0, q0, hargs, rfl, rfl, h0, r0⟩ := trodAll_cons hA
  obtain ⟨v1, vs1, d1, ds1, p1, q1, rfl, rfl, rfl, h1, r1⟩ := trodAll_cons r0
  obtain ⟨rfl, rfl, rfl⟩ := trodAll_nil r1
  obtain rfl : args = #[v0, v1] := by cases args; simp_all
  obtain ⟨rfl, rfl⟩ := trodVars_none hV
  have hsum : bulk d0 + bulk d1 ≤ 1048576 := by
    simp only [List.append_nil, Rows.uptoBulkAll] at hk
    simp only [bulk_eq]; omega
  obtain ⟨a0, e0, wt0, ok0⟩ := open_Coord.arg h0
  have k0 := h0
  have lt0 : ∀ x ∈ p0, x.block < W.heap.size := by obtain ⟨m, hm⟩ := k0; exact DataW.trod_lt m _ _ _ hm
  obtain ⟨c0, rfl, hc0⟩ := okWide_struct Tryd.underlying47 (hval 0 47 v0 rfl rfl)
  obtain ⟨a1, e1, wt1, ok1⟩ := open_int.arg h1
  obtain ⟨x1, rfl, rfl, rfl, y1⟩ := Go.ChangeShapes.open_int Tryd.underlying3 (hval 1 3 v1 rfl rfl) h1
  clear hA0
  refine ((Impl.law (IndexNil_impl a0 a1 ok0 ok1 (Nat.le_trans (Nat.add_le_add wt0 wt1) hsum)) (W := W) (vs := [_, _]) (RepVs.cons (RepL.to_agg (by simpa only [Value.cells] using e0)) (RepVs.cons (RepL.to_one (by simpa only [Value.cells] using e1)) RepVs.nil)))).mono fun e W' ⟨he, bel⟩ => ?_
  subst he
  exact ⟨_, rfl, _, _, _, [], _, [], hW', trodAll_mk1 (shut_bool Tryd.underlying4 _), (trodAll_cons_mk (Below.trod laidOut (by kernel_rfl) (of_decide_eq_true (by kernel_rfl)) k0 bel lt0) (trodAll_cons_mk (shut_int Tryd.underlying3 y1) trodAll_mk0)), rfl, bel.frame _, fun h => by cases h⟩
noncomputable def laidWorld (os : Os) : World := { World.holding Tryd.prog os ⟨#[], #[], []⟩ with heap := (((World.holding Tryd.prog os ⟨#[], #[], []⟩).heap.modify 1 fun | .cells _ t frozen => .cells (Pinned.utf8FirstZ.map fun n : Nat => Value.int .u8 (n : Int)).toArray t frozen | o => o).modify 2 fun | .cells _ t frozen => .cells #[.int .u8 128, .int .u8 191, .int .u8 160, .int .u8 191, .int .u8 128, .int .u8 159, .int .u8 144, .int .u8 191, .int .u8 128, .int .u8 143, .int .u8 0, .int .u8 0, .int .u8 0, .int .u8 0, .int .u8 0, .int .u8 0, .int .u8 0, .int .u8 0, .int .u8 0, .int .u8 0, .int .u8 0, .int .u8 0, .int .u8 0, .int .u8 0, .int .u8 0, .int .u8 0, .int .u8 0, .int .u8 0, .int .u8 0, .int .u8 0, .int .u8 0, .int .u8 0] t frozen | o => o) }
set_option maxRecDepth 100000 in
theorem laid_met (os : Os) : laidMet Tryd.prog Rows.indexNilUptoRow.laid ((laidWorld os).forCall (fun _ _ => 0) ⟨#[], #[.agg #[.string ByteArray.empty, .string ByteArray.empty, .string ByteArray.empty], .int .i64 0], []⟩).memory :=
  laidMet_of_run' 8 (by kernel_rfl) (by kernel_rfl)
set_option maxRecDepth 100000 in
theorem reads (os : Os) {H : Type} (enc : TypeId × Value → H) : ∃ places, DataW.whole enc Tryd.prog ((laidWorld os).forCall (fun _ _ => 0) ⟨#[], #[.agg #[.string ByteArray.empty, .string ByteArray.empty, .string ByteArray.empty], .int .i64 0], []⟩).memory Tryd.f11.params.toList Rows.indexNilSpec.vars false #[.agg #[.string ByteArray.empty, .string ByteArray.empty, .string ByteArray.empty], .int .i64 0].toList 8 = some ([.agg [.lit (.string []), .lit (.string []), .lit (.string [])], .lit (.int .i64 0)], [], places) :=
  ⟨[], by kernel_rfl⟩
set_option maxRecDepth 100000 in
theorem lifted (os : Os) (started : os.Started) (H : Type) (enc : TypeId × Value → H) (F : Stop.Interp) :
    ReturnsInHanded {} Tryd.checked os 11 .any ((Rows.OpenSpec.upto Rows.indexNilSpec).preRow enc Tryd.prog Tryd.f11 Rows.indexNilUptoRow.domain false Rows.indexNilUptoRow.laid) (((Rows.OpenSpec.upto Rows.indexNilSpec).at F).post enc Tryd.prog Tryd.f11 false true false false) := by
  obtain ⟨places, hx⟩ := reads os enc
  refine returnsInHanded_of_row (C := Tryd.checked) (s := Rows.OpenSpec.upto Rows.indexNilSpec) own started (by kernel_rfl) Tryd.func11
    (witness_row_at (enc := enc) (C := Tryd.checked) false (laidWorld os) #[.agg #[.string ByteArray.empty, .string ByteArray.empty, .string ByteArray.empty], .int .i64 0] rfl (by kernel_rfl) (by kernel_rfl) (by kernel_rfl)
      (OpenSpec.preRow_of_cond 8 hx (by kernel_rfl) (fun k hk => by cases hk; kernel_rfl) (by kernel_rfl) (laid_met os))) ?_
  intro W base args ds gs before hval hW _ hcond _ hL _ _
  exact contract H enc W base args ds gs before hval hW (hcond _ rfl)
theorem over : Rows.IndexNilUptoSaid :=
  OpenClaim.holds_of_cond 11 Tryd.f11 rfl rfl rfl rfl rfl rfl rfl ⟨rfl, rfl, rfl, rfl, rfl⟩ rfl rfl rfl rfl rfl (by kernel_rfl) Tryd.func11 (by kernel_rfl)
    (of_decide_eq_true (by kernel_rfl)) (by unfold Func.isWrapper; first | (rw [if_pos (by decide +kernel)]; kernel_rfl) | (rw [if_neg (by decide +kernel)]; exact ⟨rfl, rfl⟩))
    (fun os started H enc _ F => by rw [OpenClaim.pre_eq_preRow]; exact lifted os started H enc F)
theorem plain (f : FuncId) (fn : Func) (hf : Tryd.pinned.checked.prog.funcNamed "newel/newellaw13.IndexNil" = some f) (hfn : Tryd.pinned.checked.prog.funcs[f]? = some fn) :
    false = Tryd.pinned.checked.prog.looks [] ∧ ∀ (j : Nat) t, fn.params[j]? = some t → Tryd.pinned.checked.prog.wantsStandIn t = false := by
  obtain rfl : f = 11 := Option.some.inj ((show Tryd.prog.funcNamed "newel/newellaw13.IndexNil" = some 11 by kernel_rfl).symm.trans hf) |>.symm
  obtain rfl : fn = Tryd.f11 := (Option.some.inj (Tryd.func11.symm.trans hfn)).symm
  refine ⟨by kernel_rfl, fun j t ht => ?_⟩
  rw [Tryd.params11] at ht
  have hm := Array.mem_of_getElem? ht
  have hm : t = 47 ∨ t = 3 := by simpa using hm
  rcases hm with rfl | rfl
  · exact (show Tryd.prog.wantsStandIn 47 = false by kernel_rfl)
  · exact (show Tryd.prog.wantsStandIn 3 = false by kernel_rfl)
theorem card : Rows.IndexNilUptoCardSaid :=
  Claim7.holds_tied_plain_at .later [] _ _ _ _ over (fun _ h => by cases h) (by kernel_rfl) (fun _ h => by cases h) indexNilUpto_row_tie rfl ⟨rfl, rfl⟩ (by kernel_rfl) rfl plain (by kernel_rfl)
end Go.Proofs.YtblenipidihemaaDoor.indexNil
namespace Go.Proofs.YtblenipidihemaaDoor
/-- The card, under a short name, for the claim. -/
theorem indexNil_holds : Rows.IndexNilUptoCardSaid := indexNil.card
#print axioms indexNil_holds
end Go.Proofs.YtblenipidihemaaDoor
