/- The law EffectiveParents: for every input of bulk at most 1048576 the call returns true and each argument reads behind it as it read before. Conditions: those of the row. -/
import Derived.Test.YtbooikopklijdaaGreatDoorNwN6d
import Derived.Test.YtbooikopklijdaaGreatDoorCards
import Derived.Test.YtbooikopklijdaaGreatDoorTie
import Derived.WalkKit
import Derived.ProofKit
import Derived.OpenShut
import Derived.ShutString
import Derived.ChangeOld
import Derived.Below
import Derived.Carry
import Derived.JoinedCond
import Derived.SizedLaws
import Derived.Deep.DeepHandedRow
import Derived.Lib.LaidTab
namespace Go.Proofs.YtbooikopklijdaaGreatDoor.effectiveParents
open Go.ChangeShapes Go.WideShapes Go.ChangeAt Go.RowKit Go.Proofs.Nw.X
set_option linter.unusedVariables false
theorem own : ownKnob Tryz.prog.godebug = none := by kernel_rfl
theorem laidOut : laidOutB Tryz.prog = true := by kernel_rfl
theorem gi {W : World} (h : W.ShapedOpen Tryz.prog) : Gi W := Go.Proofs.cell_of_shapedOpen_int (zero := #[.int .i64 0]) (t := 3) h (of_decide_eq_true (by kernel_rfl)) (by kernel_rfl) rfl (by kernel_rfl) (by kernel_rfl) Tryz.underlying3
set_option maxRecDepth 100000 in
theorem contract (H : Type) (enc : TypeId × Value → H) (W : World) (base : Nat) (args : Array Value) (ds gs : List (DataW H)) (before : List MemPlace)
    (hval : ∀ (j : Nat) t v, Tryz.f6.params[j]? = some t → args[j]? = some v → Value.okWide Tryz.prog W .any base t v)
    (hW : DataW.Whole enc Tryz.prog Tryz.f6.params.toList Rows.effectiveParentsSpec.vars false W args.toList ds gs before) (hsh : W.ShapedOpen Tryz.prog) :
    Calls Tryz.prog 6 args W fun e W' => ∃ v, e = .returned v ∧ Rows.effectiveParentsSpec.post enc Tryz.prog Tryz.f6 false true false false W args v W' := by
  have hW' := hW
  obtain ⟨p, q, hA0, hV, rfl, hfz, hnd⟩ := hW
  have hA : DataW.TrodAll enc Tryz.prog W 0 (fun _ => true) true Tryz.f6.params.toList args.toList ds p := hA0
  rw [Tryz.params6] at hA hval
  obtain ⟨v0, vs0, d0, ds0, p0, q0, hargs, rfl, rfl, h0, r0⟩ := trodAll_cons hA
  obtain ⟨v1, vs1, d1, ds1, p1, q1, rfl, rfl, rfl, h1, r1⟩ := trodAll_cons r0
  obtain ⟨v2, vs2, d2, ds2, p2, q2, rfl, rfl, rfl, h2, r2⟩ := trodAll_cons r1
  obtain ⟨rfl, rfl, rfl⟩ := trodAll_nil r2
  obtain rfl : args = #[v0, v1, v2] := by cases args; simp_all
  obtain ⟨rfl, rfl⟩ := trodVars_none hV
  obtain ⟨x0, rfl, rfl, rfl⟩ := open_bool Tryz.underlying4 (hval 0 4 v0 rfl rfl) h0
  obtain ⟨x1, rfl, rfl, rfl⟩ := open_bool Tryz.underlying4 (hval 1 4 v1 rfl rfl) h1
  obtain ⟨x2, rfl, rfl, rfl, y2⟩ := Go.ChangeShapes.open_int Tryz.underlying3 (hval 2 3 v2 rfl rfl) h2
  clear hA0
  refine (run6 x0 x1 x2 (gi hsh)).mono fun e W' ⟨he, bel⟩ => ?_
  subst he
  exact ⟨_, rfl, _, _, _, [], _, [], hW', trodAll_mk1 (shut_bool Tryz.underlying4 _), (trodAll_cons_mk (shut_bool Tryz.underlying4 _) (trodAll_cons_mk (shut_bool Tryz.underlying4 _) (trodAll_cons_mk (shut_int Tryz.underlying3 y2) trodAll_mk0))), rfl, bel.frame _, fun h => by cases h⟩
noncomputable def laidWorld (os : Os) : World := { World.holding Tryz.prog os ⟨#[], #[], []⟩ with heap := (((World.holding Tryz.prog os ⟨#[], #[], []⟩).heap.modify 1 fun | .cells _ t frozen => .cells (Pinned.utf8FirstZ.map fun n : Nat => Value.int .u8 (n : Int)).toArray t frozen | o => o).modify 2 fun | .cells _ t frozen => .cells #[.int .u8 128, .int .u8 191, .int .u8 160, .int .u8 191, .int .u8 128, .int .u8 159, .int .u8 144, .int .u8 191, .int .u8 128, .int .u8 143, .int .u8 0, .int .u8 0, .int .u8 0, .int .u8 0, .int .u8 0, .int .u8 0, .int .u8 0, .int .u8 0, .int .u8 0, .int .u8 0, .int .u8 0, .int .u8 0, .int .u8 0, .int .u8 0, .int .u8 0, .int .u8 0, .int .u8 0, .int .u8 0, .int .u8 0, .int .u8 0, .int .u8 0, .int .u8 0] t frozen | o => o) }
set_option maxRecDepth 100000 in
theorem laid_met (os : Os) : laidMet Tryz.prog Rows.effectiveParentsUptoRow.laid ((laidWorld os).forCall (fun _ _ => 0) ⟨#[], #[.bool false, .bool false, .int .i64 0], []⟩).memory :=
  laidMet_of_run' 8 (by kernel_rfl) (by kernel_rfl)
set_option maxRecDepth 100000 in
theorem reads (os : Os) {H : Type} (enc : TypeId × Value → H) : ∃ places, DataW.whole enc Tryz.prog ((laidWorld os).forCall (fun _ _ => 0) ⟨#[], #[.bool false, .bool false, .int .i64 0], []⟩).memory Tryz.f6.params.toList Rows.effectiveParentsSpec.vars false #[.bool false, .bool false, .int .i64 0].toList 8 = some ([.lit (.bool false), .lit (.bool false), .lit (.int .i64 0)], [], places) :=
  ⟨[], by kernel_rfl⟩
set_option maxRecDepth 100000 in
theorem lifted (os : Os) (started : os.Started) (H : Type) (enc : TypeId × Value → H) (F : Stop.Interp) :
    ReturnsInHanded {} Tryz.checked os 6 .any ((Rows.OpenSpec.upto Rows.effectiveParentsSpec).preRow enc Tryz.prog Tryz.f6 Rows.effectiveParentsUptoRow.domain false Rows.effectiveParentsUptoRow.laid) (((Rows.OpenSpec.upto Rows.effectiveParentsSpec).at F).post enc Tryz.prog Tryz.f6 false true false false) := by
  obtain ⟨places, hx⟩ := reads os enc
  refine returnsInHanded_of_row (C := Tryz.checked) (s := Rows.OpenSpec.upto Rows.effectiveParentsSpec) own started (by kernel_rfl) Tryz.func6
    (witness_row_at (enc := enc) (C := Tryz.checked) false (laidWorld os) #[.bool false, .bool false, .int .i64 0] rfl (by kernel_rfl) (by kernel_rfl) (by kernel_rfl)
      (OpenSpec.preRow_of_cond 8 hx (by kernel_rfl) (fun k hk => by cases hk; kernel_rfl) (by kernel_rfl) (laid_met os))) ?_
  intro W base args ds gs before hval hW _ _ _ _ hsh _
  exact contract H enc W base args ds gs before hval hW hsh
set_option maxRecDepth 100000 in
theorem clo : Tryz.pinned.checked.prog.closure 6 = [6, 16, 18, 31, 49, 51, 75, 124, 76, 50, 73, 74, 123, 52, 33, 34, 32, 35, 23, 19, 36, 54, 85, 86, 53, 77, 78, 125, 79, 126, 127, 80, 128, 129, 186, 81, 82, 83, 84, 37, 56, 87, 57, 89, 133, 132, 188, 134, 135, 189, 190, 237, 238, 239, 270, 240, 285, 308, 286, 268, 93, 137, 191, 303, 193, 192, 88, 131, 130, 187, 236, 55, 38, 58, 90, 59, 91, 136, 92, 60, 94, 138, 194, 241, 43, 64, 105, 106, 159, 160, 24, 44, 45, 65, 39, 61, 107, 20, 22, 40, 41, 62, 95, 139, 140, 195, 141, 196, 174, 228, 223, 197, 242, 225, 271, 243, 287, 244, 198, 199, 200, 245, 255, 291, 292, 246, 201, 247, 288, 171, 250, 257, 293, 311, 258, 290, 309, 324, 325, 310, 249, 248, 289, 202, 96, 142, 203, 252, 251, 253, 204, 205, 210, 63, 97, 143, 206, 254, 207, 208, 144, 209, 99, 147, 148, 211, 256, 100, 149, 98, 146, 145, 104, 158, 101, 150, 151, 102, 152, 103, 153, 155, 156, 213, 157, 214, 215, 154, 212, 42, 161, 216, 259, 294, 312, 313, 326, 314, 315, 327, 328, 331, 316, 317, 318, 319, 260, 217, 261, 46, 113, 163, 219, 218, 262, 162, 164, 220, 263, 295, 224, 269, 264, 296, 320, 329, 332, 297, 266, 265, 298, 165, 166, 221, 267, 299, 321, 330, 168, 180, 234, 300, 301, 302, 114, 115, 172, 226, 272, 273, 274, 304, 322, 227, 275, 173, 109, 108, 112, 167, 222, 110, 169, 111, 170, 66, 67, 25] := by kernel_rfl
set_option maxRecDepth 100000 in
theorem unf : Tryz.pinned.checked.prog.unfollowed 6 = true := by
  unfold Program.unfollowed
  rw [clo]
  kernel_rfl
set_option maxRecDepth 100000 in
theorem inp : Tryz.pinned.checked.prog.inPlace 6 = ["internal/bytealg.IndexByteString", "internal/bytealg.IndexString", "internal/abi.NoEscape", "internal/bytealg.MakeNoZero"] := by
  unfold Program.inPlace
  rw [clo]
  kernel_rfl
theorem rec : Tryz.pinned.checked.prog.recurses 6 = true := by
  unfold Program.recurses
  rw [unf]
  rfl
set_option maxRecDepth 100000 in
theorem vna : Tryz.pinned.checked.prog.varsNamed 6 = ["unicode/utf8.first", "unicode/utf8.acceptRanges", "internal/bytealg.MaxLen"] := by
  unfold Program.varsNamed
  rw [clo]
  kernel_rfl
set_option maxRecDepth 100000 in
theorem facts : joinedFacts Tryz.pinned.checked.prog 6 Tryz.f6 (Rows.OpenSpec.upto Rows.effectiveParentsSpec).bare Rows.effectiveParentsUptoRow = true := by
  unfold joinedFacts
  rw [unf, inp, rec, vna]
  kernel_rfl
theorem over : Rows.EffectiveParentsUptoSaid :=
  OpenClaim.holds_of_cond 6 Tryz.f6 rfl rfl rfl rfl rfl rfl rfl ⟨rfl, rfl, rfl, rfl, rfl⟩ rfl rfl rfl rfl rfl (by kernel_rfl) Tryz.func6 facts
    (of_decide_eq_true (by kernel_rfl)) (by unfold Func.isWrapper; first | (rw [if_pos (by decide +kernel)]; kernel_rfl) | (rw [if_neg (by decide +kernel)]; exact ⟨rfl, rfl⟩))
    (fun os started H enc _ F => by rw [OpenClaim.pre_eq_preRow]; exact lifted os started H enc F)
theorem plain (f : FuncId) (fn : Func) (hf : Tryz.pinned.checked.prog.funcNamed "newel/newellaw18.EffectiveParents" = some f) (hfn : Tryz.pinned.checked.prog.funcs[f]? = some fn) :
    false = Tryz.pinned.checked.prog.looks [] ∧ ∀ (j : Nat) t, fn.params[j]? = some t → Tryz.pinned.checked.prog.wantsStandIn t = false := by
  obtain rfl : f = 6 := Option.some.inj ((show Tryz.prog.funcNamed "newel/newellaw18.EffectiveParents" = some 6 by kernel_rfl).symm.trans hf) |>.symm
  obtain rfl : fn = Tryz.f6 := (Option.some.inj (Tryz.func6.symm.trans hfn)).symm
  refine ⟨by kernel_rfl, fun j t ht => ?_⟩
  rw [Tryz.params6] at ht
  have hm := Array.mem_of_getElem? ht
  have hm : t = 4 ∨ t = 4 ∨ t = 3 := by simpa using hm
  rcases hm with rfl | rfl | rfl
  · exact (show Tryz.prog.wantsStandIn 4 = false by kernel_rfl)
  · exact (show Tryz.prog.wantsStandIn 4 = false by kernel_rfl)
  · exact (show Tryz.prog.wantsStandIn 3 = false by kernel_rfl)
set_option maxRecDepth 100000 in
theorem gos : Tryz.pinned.checked.prog.goes 6 = false := by
  unfold Program.goes
  rw [clo, unf]
  kernel_rfl
set_option maxRecDepth 100000 in
theorem named : Tryz.pinned.checked.prog.funcNamed Rows.effectiveParentsUptoRow.func = some 6 := by kernel_rfl
theorem goes : false = Rows.effectiveParentsUptoRow.goesBy Tryz.pinned.checked.prog := by
  unfold OpenClaim.goesBy Program.goesAt Program.goesFrom
  rw [named, Option.any_some, gos]
  kernel_rfl
set_option maxRecDepth 100000 in
theorem wft : Rows.effectiveParentsUptoRow.wfByText (Rows.OpenSpec.upto Rows.effectiveParentsSpec) = true := by kernel_rfl
set_option maxRecDepth 100000 in
theorem main : Tryz.pinned.checked.prog.mainIs = some (true, ("8d5a364bab48ca6a02ef3fe288e6b93e6d31424a59dcdb4424f35f263457ebf7" : String).toList) := by kernel_rfl
theorem card : Rows.EffectiveParentsUptoCardSaid :=
  Claim7.holds_tied_plain_at .later [] _ _ _ _ over (fun _ h => by cases h) wft (fun _ h => by cases h) effectiveParentsUpto_row_tie rfl ⟨rfl, rfl⟩ main rfl plain goes
end Go.Proofs.YtbooikopklijdaaGreatDoor.effectiveParents
namespace Go.Proofs.YtbooikopklijdaaGreatDoor
/-- The card, under a short name, for the claim. -/
theorem effectiveParents_holds : Rows.EffectiveParentsUptoCardSaid := effectiveParents.card
#print axioms effectiveParents_holds
end Go.Proofs.YtbooikopklijdaaGreatDoor
