/- Bundle 15: NwQP9, NwQL11. -/
import Derived.Test.YtblenipidihemaaDoorNwA14
section
/- Printed by a program of mine (pg.py): functions that may have no answer, and that the code comes to them. -/
open Go Go.RowKit Go.Proofs
set_option linter.unusedVariables false
set_option linter.unusedSimpArgs false
set_option maxHeartbeats 1000000
namespace Go.Proofs.Nw.K

/-! ### newel/newellaw13.IndexTurned -/
def g_newellaw13_IndexTurned.k42 (n : Nat) (a0 : (List Item)) (a2 : Coord) (l43 : (List Item)) : Option (Bool) :=
  (g_index_New n a0).bind fun y44 =>
  (g_index_New n l43).bind fun y45 =>
  (g_newellaw13_awake n).bind fun y49 =>
  bif (!y49) then (
    some false
  ) else (
    bif (!((y44.2 == 0) == (y45.2 == 0))) then (
      some false
    ) else (
      (g_index_Index_Find n y44.1 a2).bind fun y52 =>
      (g_index_Index_Find n y45.1 a2).bind fun y53 =>
      bif (y52.1.toList == y53.1.toList) then (
        bif (y52.2 == y53.2) then (
          (g_index_Index_Versions n y44.1 a2.group a2.name).bind fun y56 =>
          (g_index_Index_Versions n y45.1 a2.group a2.name).bind fun y57 =>
          (g_newelhelp_Plain_string n y56 y57).bind fun y58 =>
          bif y58 then (
            (g_index_Index_Coords n y44.1).bind fun y60 =>
            (g_index_Index_Coords n y45.1).bind fun y61 =>
            (g_newelhelp_Plain_api_Coord n y60 y61).bind fun y62 =>
            bif y62 then (
              (g_index_Index_Len n y44.1).bind fun y64 =>
              (g_index_Index_Len n y45.1).bind fun y65 =>
              some (y64 == y65)
            ) else (
              some false
            )
          ) else (
            some false
          )
        ) else (
          some false
        )
      ) else (
        some false
      )
    )
  )
def g_newellaw13_IndexTurned.l42b (n : Nat) (a0 : (List Item)) (a1 : (List Int)) (a2 : Coord) (rec42 : (List Item) → Int → Option (Bool)) (l66 : (List Item)) (x67 : Int) : Option (Bool) :=
  bif (decide (x67 < (a1.length : Int))) then (
    bif (decide (x67 < 40)) then (
      bif (decide ((l66.length : Int) > 0)) then (
        chk (0 ≤ x67 ∧ x67 < (a1.length : Int)) <|
        chk ((IntKind.wrap .u64 (l66.length : Int)) ≠ 0) <|
        chk ((l66.length : Int) ≠ 0) <|
        chk (0 ≤ (IntKind.wrap .i64 ((IntKind.wrap .u64 (a1.getD x67.toNat (0 : Int))).tmod (IntKind.wrap .u64 (l66.length : Int)))) ∧ (IntKind.wrap .i64 ((IntKind.wrap .u64 (a1.getD x67.toNat (0 : Int))).tmod (IntKind.wrap .u64 (l66.length : Int)))) < (l66.length : Int)) <|
        chk ((l66.length : Int) ≠ 0) <|
        chk (0 ≤ (x67.tmod (l66.length : Int)) ∧ (x67.tmod (l66.length : Int)) < (l66.length : Int)) <|
        chk (0 ≤ (x67.tmod (l66.length : Int)) ∧ (x67.tmod (l66.length : Int)) < (l66.length : Int)) <|
        chk (0 ≤ (IntKind.wrap .i64 ((IntKind.wrap .u64 (a1.getD x67.toNat (0 : Int))).tmod (IntKind.wrap .u64 (l66.length : Int)))) ∧ (IntKind.wrap .i64 ((IntKind.wrap .u64 (a1.getD x67.toNat (0 : Int))).tmod (IntKind.wrap .u64 (l66.length : Int)))) < (l66.length : Int)) <|
        chk (in64 (x67 + 1)) <|
        rec42 ((l66.set ((x67.tmod (l66.length : Int)).toNat) (l66.getD ((IntKind.wrap .i64 ((IntKind.wrap .u64 (a1.getD x67.toNat (0 : Int))).tmod (IntKind.wrap .u64 (l66.length : Int)))).toNat) zItem)).set ((IntKind.wrap .i64 ((IntKind.wrap .u64 (a1.getD x67.toNat (0 : Int))).tmod (IntKind.wrap .u64 (l66.length : Int)))).toNat) (l66.getD ((x67.tmod (l66.length : Int)).toNat) zItem)) (x67 + 1)
      ) else (
        g_newellaw13_IndexTurned.k42 n a0 a2 l66
      )
    ) else (
      g_newellaw13_IndexTurned.k42 n a0 a2 l66
    )
  ) else (
    g_newellaw13_IndexTurned.k42 n a0 a2 l66
  )
def g_newellaw13_IndexTurned.l42 (n : Nat) (a0 : (List Item)) (a1 : (List Int)) (a2 : Coord) : Nat → (List Item) → Int → Option (Bool)
  | 0, _, _ => none
  | m + 1, l66, x67 => g_newellaw13_IndexTurned.l42b n a0 a1 a2 (g_newellaw13_IndexTurned.l42 n a0 a1 a2 m) l66 x67
def g_newellaw13_IndexTurned (n : Nat) (a0 : (List Item)) (a1 : (List Int)) (a2 : Coord) : Option (Bool) :=
  (g_newellaw13_few n a0).bind fun y4 =>
  bif (!y4) then (
    (g_newellaw13_awake n).bind fun y6 =>
    some y6
  ) else (
    chk (room a0.length 64) <|
    g_newellaw13_IndexTurned.l42 n a0 a1 a2 n a0 0
  )
theorem g_newellaw13_IndexTurned.ok (n : Nat) (a0 : (List Item)) (a1 : (List Int)) (a2 : Coord) (r : Bool) (h : g_newellaw13_IndexTurned n a0 a1 a2 = some r) : Impl Tryd.prog 10 [.one (.tl Item 4 encItem zItem a0), .one (.tl Int 1 encInt (0 : Int) a1), .agg (encCoord a2)] [.one (dbool r)] := by
  refine impl_wp tabOk Tryd.func10 rfl rfl (by kernel_rfl) ?_
  unfold g_newellaw13_IndexTurned at h
  refine WP_seq ?_
  refine vcc_sound _ _ _ tabOk (by exact rfl) ?_
  repeat (first | refine Ob.mk (by first | rfl | omega | assumption | exact ⟨rfl, rfl, (List.length_map _).symm⟩ | exact ⟨rfl, rfl, by rw [List.length_map]; omega⟩) ?_ | refine Br.t ?_ | refine Br.f ?_)
  refine WP_seq ?_
  refine WP_seq ?_
  refine vcc_sound _ _ _ tabOk (by exact rfl) ?_
  obtain ⟨y4, hy4, h⟩ := bind_some h
  repeat (first | refine Ob.mk (by first | rfl | omega | assumption | exact ⟨rfl, rfl, (List.length_map _).symm⟩ | exact ⟨rfl, rfl, by rw [List.length_map]; omega⟩) ?_ | refine Br.t ?_ | refine Br.f ?_)
  refine CallD.mk _ _ (g_newellaw13_few.ok n a0 y4 hy4) (by exact ⟨DLe.refl _, trivial⟩) ?_
  repeat (first | refine Ob.mk (by first | rfl | omega | assumption | exact ⟨rfl, rfl, (List.length_map _).symm⟩ | exact ⟨rfl, rfl, by rw [List.length_map]; omega⟩) ?_ | refine Br.t ?_ | refine Br.f ?_)
  refine vcc_sound _ _ _ tabOk (by exact rfl) ?_
  repeat (first | refine Ob.mk (by first | rfl | omega | assumption | exact ⟨rfl, rfl, (List.length_map _).symm⟩ | exact ⟨rfl, rfl, by rw [List.length_map]; omega⟩) ?_ | refine Br.t ?_ | refine Br.f ?_)
  refine Br.mk (fun b5 => ?_) (fun b5 => ?_)
  · replace h := bif_t b5 h
    refine WP_seq ?_
    refine vcc_sound _ _ _ tabOk (by exact rfl) ?_
    obtain ⟨y6, hy6, h⟩ := bind_some h
    repeat (first | refine Ob.mk (by first | rfl | omega | assumption | exact ⟨rfl, rfl, (List.length_map _).symm⟩ | exact ⟨rfl, rfl, by rw [List.length_map]; omega⟩) ?_ | refine Br.t ?_ | refine Br.f ?_)
    refine CallD.mk _ _ (g_newellaw13_awake.ok n y6 hy6) (by exact trivial) ?_
    repeat (first | refine Ob.mk (by first | rfl | omega | assumption | exact ⟨rfl, rfl, (List.length_map _).symm⟩ | exact ⟨rfl, rfl, by rw [List.length_map]; omega⟩) ?_ | refine Br.t ?_ | refine Br.f ?_)
    refine WP_ret ?_
    obtain rfl := Option.some.inj h
    repeat (first | refine Ob.mk (by first | rfl | omega | assumption | exact ⟨rfl, rfl, (List.length_map _).symm⟩ | exact ⟨rfl, rfl, by rw [List.length_map]; omega⟩) ?_ | refine Br.t ?_ | refine Br.f ?_)
    exact ⟨DLe.refl _, trivial⟩
  · replace h := bif_f b5 h
    refine WP_skip ?_
    refine WP_seq ?_
    refine vcc_sound _ _ _ tabOk (by exact rfl) ?_
    obtain ⟨c7, h⟩ := chk_some h
    repeat (first | refine Ob.mk (by first | rfl | omega | assumption | exact ⟨rfl, rfl, (List.length_map _).symm⟩ | exact ⟨rfl, rfl, by rw [List.length_map]; omega⟩) ?_ | refine Br.t ?_ | refine Br.f ?_)
    refine AppN.ty encItem a0 ?_ c7 ?_
    · exact rfl
    repeat (first | refine Ob.mk (by first | rfl | omega | assumption | exact ⟨rfl, rfl, (List.length_map _).symm⟩ | exact ⟨rfl, rfl, by rw [List.length_map]; omega⟩) ?_ | refine Br.t ?_ | refine Br.f ?_)
    refine WP_seq ?_
    refine WP_seq ?_
    refine vcc_sound _ _ _ tabOk (by exact rfl) ?_
    repeat (first | refine Ob.mk (by first | rfl | omega | assumption | exact ⟨rfl, rfl, (List.length_map _).symm⟩ | exact ⟨rfl, rfl, by rw [List.length_map]; omega⟩) ?_ | refine Br.t ?_ | refine Br.f ?_)
    refine WP_cutQ (α := {p : (List Item) // g_newellaw13_IndexTurned.k42 n a0 a2 p = some r}) (fun p => ofL [(0, .d (.tl Item 4 encItem zItem a0)), (5, .ptr 0 0), (7, .h 1 0 0 p.1.length)]) (fun p => [.box 47 ((encCoord a2).map AV.d), .row 0 50 4 (p.1.map encItem)]) (WP_block (WP_loop (α := {x : Nat × (List Item) × Int // g_newellaw13_IndexTurned.l42 n a0 a1 a2 x.1 x.2.1 x.2.2 = some r}) (fun x => ofL [(0, .d (.tl Item 4 encItem zItem a0)), (1, .d (.tl Int 1 encInt (0 : Int) a1)), (5, .ptr 0 0), (7, .h 1 0 0 x.1.2.1.length), (8, .int x.1.2.2)]) (fun x => [.box 47 ((encCoord a2).map AV.d), .row 0 50 4 (x.1.2.1.map encItem)]) (fun x => x.1.1) ⟨(n, a0, 0), h⟩ (Sub.ofL _ _ (Nat.zero_le _) ⟨rfl, rfl, rfl, rfl, rfl, rfl, rfl, rfl, rfl, rfl, trivial⟩ rfl rfl) ?_)) ?_
    rotate_left
    · rintro ⟨l43, h⟩ env st hs
      replace h : g_newellaw13_IndexTurned.k42 n a0 a2 l43 = some r := h
      unfold g_newellaw13_IndexTurned.k42 at h
      refine WP_sub hs ?_
      try dsimp only
      refine WP_seq ?_
      refine vcc_sound _ _ _ tabOk (by exact rfl) ?_
      obtain ⟨y44, hy44, h⟩ := bind_some h
      repeat (first | refine Ob.mk (by first | rfl | omega | assumption | exact ⟨rfl, rfl, (List.length_map _).symm⟩ | exact ⟨rfl, rfl, by rw [List.length_map]; omega⟩) ?_ | refine Br.t ?_ | refine Br.f ?_)
      refine CallD.mk _ _ (g_index_New.ok n a0 y44 hy44) (by exact ⟨DLe.refl _, trivial⟩) ?_
      repeat (first | refine Ob.mk (by first | rfl | omega | assumption | exact ⟨rfl, rfl, (List.length_map _).symm⟩ | exact ⟨rfl, rfl, by rw [List.length_map]; omega⟩) ?_ | refine Br.t ?_ | refine Br.f ?_)
      refine WP_seq ?_
      refine WP_sub (Sub.shutT (s := 1) (k := 0) (n := l43.length) (e := 50) (sz := 4) 7 encItem zItem l43 rfl rfl rfl) ?_
      refine vcc_sound _ _ _ tabOk (by exact rfl) ?_
      obtain ⟨y45, hy45, h⟩ := bind_some h
      repeat (first | refine Ob.mk (by first | rfl | omega | assumption | exact ⟨rfl, rfl, (List.length_map _).symm⟩ | exact ⟨rfl, rfl, by rw [List.length_map]; omega⟩) ?_ | refine Br.t ?_ | refine Br.f ?_)
      refine CallD.mk _ _ (g_index_New.ok n l43 y45 hy45) (by exact ⟨DLe.refl _, trivial⟩) ?_
      repeat (first | refine Ob.mk (by first | rfl | omega | assumption | exact ⟨rfl, rfl, (List.length_map _).symm⟩ | exact ⟨rfl, rfl, by rw [List.length_map]; omega⟩) ?_ | refine Br.t ?_ | refine Br.f ?_)
      refine WP_seq ?_
      refine WP_seq ?_
      refine vcc_sound _ _ _ tabOk (by exact rfl) ?_
      obtain ⟨y49, hy49, h⟩ := bind_some h
      repeat (first | refine Ob.mk (by first | rfl | omega | assumption | exact ⟨rfl, rfl, (List.length_map _).symm⟩ | exact ⟨rfl, rfl, by rw [List.length_map]; omega⟩) ?_ | refine Br.t ?_ | refine Br.f ?_)
      refine CallD.mk _ _ (g_newellaw13_awake.ok n y49 hy49) (by exact trivial) ?_
      repeat (first | refine Ob.mk (by first | rfl | omega | assumption | exact ⟨rfl, rfl, (List.length_map _).symm⟩ | exact ⟨rfl, rfl, by rw [List.length_map]; omega⟩) ?_ | refine Br.t ?_ | refine Br.f ?_)
      refine Br.mk (fun b50 => ?_) (fun b50 => ?_)
      · replace h := bif_t b50 h
        repeat (first | refine Ob.mk (by first | rfl | omega | assumption | exact ⟨rfl, rfl, (List.length_map _).symm⟩ | exact ⟨rfl, rfl, by rw [List.length_map]; omega⟩) ?_ | refine Br.t ?_ | refine Br.f ?_)
        refine vcc_sound _ _ _ tabOk (by exact rfl) ?_
        repeat (first | refine Ob.mk (by first | rfl | omega | assumption | exact ⟨rfl, rfl, (List.length_map _).symm⟩ | exact ⟨rfl, rfl, by rw [List.length_map]; omega⟩) ?_ | refine Br.t ?_ | refine Br.f ?_)
        refine WP_seq ?_
        refine vcc_sound _ _ _ tabOk (by exact rfl) ?_
        repeat (first | refine Ob.mk (by first | rfl | omega | assumption | exact ⟨rfl, rfl, (List.length_map _).symm⟩ | exact ⟨rfl, rfl, by rw [List.length_map]; omega⟩) ?_ | refine Br.t ?_ | refine Br.f ?_)
        refine WP_ret ?_
        obtain rfl := Option.some.inj h
        repeat (first | refine Ob.mk (by first | rfl | omega | assumption | exact ⟨rfl, rfl, (List.length_map _).symm⟩ | exact ⟨rfl, rfl, by rw [List.length_map]; omega⟩) ?_ | refine Br.t ?_ | refine Br.f ?_)
        exact ⟨DLe.refl _, trivial⟩
      · replace h := bif_f b50 h
        repeat (first | refine Ob.mk (by first | rfl | omega | assumption | exact ⟨rfl, rfl, (List.length_map _).symm⟩ | exact ⟨rfl, rfl, by rw [List.length_map]; omega⟩) ?_ | refine Br.t ?_ | refine Br.f ?_)
        refine vcc_sound _ _ _ tabOk (by exact rfl) ?_
        repeat (first | refine Ob.mk (by first | rfl | omega | assumption | exact ⟨rfl, rfl, (List.length_map _).symm⟩ | exact ⟨rfl, rfl, by rw [List.length_map]; omega⟩) ?_ | refine Br.t ?_ | refine Br.f ?_)
        refine Br.mk (fun b51 => ?_) (fun b51 => ?_)
        · replace h := bif_t b51 h
          refine WP_seq ?_
          refine vcc_sound _ _ _ tabOk (by exact rfl) ?_
          repeat (first | refine Ob.mk (by first | rfl | omega | assumption | exact ⟨rfl, rfl, (List.length_map _).symm⟩ | exact ⟨rfl, rfl, by rw [List.length_map]; omega⟩) ?_ | refine Br.t ?_ | refine Br.f ?_)
          refine WP_ret ?_
          obtain rfl := Option.some.inj h
          repeat (first | refine Ob.mk (by first | rfl | omega | assumption | exact ⟨rfl, rfl, (List.length_map _).symm⟩ | exact ⟨rfl, rfl, by rw [List.length_map]; omega⟩) ?_ | refine Br.t ?_ | refine Br.f ?_)
          exact ⟨DLe.refl _, trivial⟩
        · replace h := bif_f b51 h
          refine WP_skip ?_
          refine WP_seq ?_
          refine vcc_sound _ _ _ tabOk (by exact rfl) ?_
          obtain ⟨y52, hy52, h⟩ := bind_some h
          repeat (first | refine Ob.mk (by first | rfl | omega | assumption | exact ⟨rfl, rfl, (List.length_map _).symm⟩ | exact ⟨rfl, rfl, by rw [List.length_map]; omega⟩) ?_ | refine Br.t ?_ | refine Br.f ?_)
          refine CallD.mk _ _ (g_index_Index_Find.ok n y44.1 a2 y52 hy52) (by exact ⟨DLe.refl _, DLe.refl _, trivial⟩) ?_
          repeat (first | refine Ob.mk (by first | rfl | omega | assumption | exact ⟨rfl, rfl, (List.length_map _).symm⟩ | exact ⟨rfl, rfl, by rw [List.length_map]; omega⟩) ?_ | refine Br.t ?_ | refine Br.f ?_)
          refine WP_seq ?_
          refine vcc_sound _ _ _ tabOk (by exact rfl) ?_
          obtain ⟨y53, hy53, h⟩ := bind_some h
          repeat (first | refine Ob.mk (by first | rfl | omega | assumption | exact ⟨rfl, rfl, (List.length_map _).symm⟩ | exact ⟨rfl, rfl, by rw [List.length_map]; omega⟩) ?_ | refine Br.t ?_ | refine Br.f ?_)
          refine CallD.mk _ _ (g_index_Index_Find.ok n y45.1 a2 y53 hy53) (by exact ⟨DLe.refl _, DLe.refl _, trivial⟩) ?_
          repeat (first | refine Ob.mk (by first | rfl | omega | assumption | exact ⟨rfl, rfl, (List.length_map _).symm⟩ | exact ⟨rfl, rfl, by rw [List.length_map]; omega⟩) ?_ | refine Br.t ?_ | refine Br.f ?_)
          refine WP_seq ?_
          refine cdraw1 tabOk (by kernel_rfl) ?_
          repeat (first | refine Ob.mk (by first | rfl | omega | assumption | exact ⟨rfl, rfl, (List.length_map _).symm⟩ | exact ⟨rfl, rfl, by rw [List.length_map]; omega⟩) ?_ | refine Br.t ?_ | refine Br.f ?_)
          refine Br.mk (fun b54 => ?_) (fun b54 => ?_)
          · replace h := bif_t b54 h
            repeat (first | refine Ob.mk (by first | rfl | omega | assumption | exact ⟨rfl, rfl, (List.length_map _).symm⟩ | exact ⟨rfl, rfl, by rw [List.length_map]; omega⟩) ?_ | refine Br.t ?_ | refine Br.f ?_)
            refine Br.mk (fun b55 => ?_) (fun b55 => ?_)
            · replace h := bif_t b55 h
              obtain ⟨y56, hy56, h⟩ := bind_some h
              repeat (first | refine Ob.mk (by first | rfl | omega | assumption | exact ⟨rfl, rfl, (List.length_map _).symm⟩ | exact ⟨rfl, rfl, by rw [List.length_map]; omega⟩) ?_ | refine Br.t ?_ | refine Br.f ?_)
              refine CallD.mk _ _ (g_index_Index_Versions.ok n y44.1 a2.group a2.name y56 hy56) (by exact ⟨DLe.refl _, DLe.refl _, DLe.refl _, trivial⟩) ?_
              obtain ⟨y57, hy57, h⟩ := bind_some h
              repeat (first | refine Ob.mk (by first | rfl | omega | assumption | exact ⟨rfl, rfl, (List.length_map _).symm⟩ | exact ⟨rfl, rfl, by rw [List.length_map]; omega⟩) ?_ | refine Br.t ?_ | refine Br.f ?_)
              refine CallD.mk _ _ (g_index_Index_Versions.ok n y45.1 a2.group a2.name y57 hy57) (by exact ⟨DLe.refl _, DLe.refl _, DLe.refl _, trivial⟩) ?_
              obtain ⟨y58, hy58, h⟩ := bind_some h
              repeat (first | refine Ob.mk (by first | rfl | omega | assumption | exact ⟨rfl, rfl, (List.length_map _).symm⟩ | exact ⟨rfl, rfl, by rw [List.length_map]; omega⟩) ?_ | refine Br.t ?_ | refine Br.f ?_)
              refine CallD.mk _ _ (g_newelhelp_Plain_string.ok n y56 y57 y58 hy58) (by exact ⟨DLe.refl _, DLe.refl _, trivial⟩) ?_
              repeat (first | refine Ob.mk (by first | rfl | omega | assumption | exact ⟨rfl, rfl, (List.length_map _).symm⟩ | exact ⟨rfl, rfl, by rw [List.length_map]; omega⟩) ?_ | refine Br.t ?_ | refine Br.f ?_)
              refine Br.mk (fun b59 => ?_) (fun b59 => ?_)
              · replace h := bif_t b59 h
                obtain ⟨y60, hy60, h⟩ := bind_some h
                repeat (first | refine Ob.mk (by first | rfl | omega | assumption | exact ⟨rfl, rfl, (List.length_map _).symm⟩ | exact ⟨rfl, rfl, by rw [List.length_map]; omega⟩) ?_ | refine Br.t ?_ | refine Br.f ?_)
                refine CallD.mk _ _ (g_index_Index_Coords.ok n y44.1 y60 hy60) (by exact ⟨DLe.refl _, trivial⟩) ?_
                obtain ⟨y61, hy61, h⟩ := bind_some h
                repeat (first | refine Ob.mk (by first | rfl | omega | assumption | exact ⟨rfl, rfl, (List.length_map _).symm⟩ | exact ⟨rfl, rfl, by rw [List.length_map]; omega⟩) ?_ | refine Br.t ?_ | refine Br.f ?_)
                refine CallD.mk _ _ (g_index_Index_Coords.ok n y45.1 y61 hy61) (by exact ⟨DLe.refl _, trivial⟩) ?_
                obtain ⟨y62, hy62, h⟩ := bind_some h
                repeat (first | refine Ob.mk (by first | rfl | omega | assumption | exact ⟨rfl, rfl, (List.length_map _).symm⟩ | exact ⟨rfl, rfl, by rw [List.length_map]; omega⟩) ?_ | refine Br.t ?_ | refine Br.f ?_)
                refine CallD.mk _ _ (g_newelhelp_Plain_api_Coord.ok n y60 y61 y62 hy62) (by exact ⟨DLe.refl _, DLe.refl _, trivial⟩) ?_
                repeat (first | refine Ob.mk (by first | rfl | omega | assumption | exact ⟨rfl, rfl, (List.length_map _).symm⟩ | exact ⟨rfl, rfl, by rw [List.length_map]; omega⟩) ?_ | refine Br.t ?_ | refine Br.f ?_)
                refine Br.mk (fun b63 => ?_) (fun b63 => ?_)
                · replace h := bif_t b63 h
                  obtain ⟨y64, hy64, h⟩ := bind_some h
                  repeat (first | refine Ob.mk (by first | rfl | omega | assumption | exact ⟨rfl, rfl, (List.length_map _).symm⟩ | exact ⟨rfl, rfl, by rw [List.length_map]; omega⟩) ?_ | refine Br.t ?_ | refine Br.f ?_)
                  refine CallD.mk _ _ (g_index_Index_Len.ok n y44.1 y64 hy64) (by exact ⟨DLe.refl _, trivial⟩) ?_
                  obtain ⟨y65, hy65, h⟩ := bind_some h
                  repeat (first | refine Ob.mk (by first | rfl | omega | assumption | exact ⟨rfl, rfl, (List.length_map _).symm⟩ | exact ⟨rfl, rfl, by rw [List.length_map]; omega⟩) ?_ | refine Br.t ?_ | refine Br.f ?_)
                  refine CallD.mk _ _ (g_index_Index_Len.ok n y45.1 y65 hy65) (by exact ⟨DLe.refl _, trivial⟩) ?_
                  repeat (first | refine Ob.mk (by first | rfl | omega | assumption | exact ⟨rfl, rfl, (List.length_map _).symm⟩ | exact ⟨rfl, rfl, by rw [List.length_map]; omega⟩) ?_ | refine Br.t ?_ | refine Br.f ?_)
                  refine WP_ret ?_
                  obtain rfl := Option.some.inj h
                  repeat (first | refine Ob.mk (by first | rfl | omega | assumption | exact ⟨rfl, rfl, (List.length_map _).symm⟩ | exact ⟨rfl, rfl, by rw [List.length_map]; omega⟩) ?_ | refine Br.t ?_ | refine Br.f ?_)
                  exact ⟨DLe.refl _, trivial⟩
                · replace h := bif_f b63 h
                  repeat (first | refine Ob.mk (by first | rfl | omega | assumption | exact ⟨rfl, rfl, (List.length_map _).symm⟩ | exact ⟨rfl, rfl, by rw [List.length_map]; omega⟩) ?_ | refine Br.t ?_ | refine Br.f ?_)
                  refine WP_ret ?_
                  obtain rfl := Option.some.inj h
                  repeat (first | refine Ob.mk (by first | rfl | omega | assumption | exact ⟨rfl, rfl, (List.length_map _).symm⟩ | exact ⟨rfl, rfl, by rw [List.length_map]; omega⟩) ?_ | refine Br.t ?_ | refine Br.f ?_)
                  exact ⟨DLe.refl _, trivial⟩
              · replace h := bif_f b59 h
                repeat (first | refine Ob.mk (by first | rfl | omega | assumption | exact ⟨rfl, rfl, (List.length_map _).symm⟩ | exact ⟨rfl, rfl, by rw [List.length_map]; omega⟩) ?_ | refine Br.t ?_ | refine Br.f ?_)
                refine WP_ret ?_
                obtain rfl := Option.some.inj h
                repeat (first | refine Ob.mk (by first | rfl | omega | assumption | exact ⟨rfl, rfl, (List.length_map _).symm⟩ | exact ⟨rfl, rfl, by rw [List.length_map]; omega⟩) ?_ | refine Br.t ?_ | refine Br.f ?_)
                exact ⟨DLe.refl _, trivial⟩
            · replace h := bif_f b55 h
              repeat (first | refine Ob.mk (by first | rfl | omega | assumption | exact ⟨rfl, rfl, (List.length_map _).symm⟩ | exact ⟨rfl, rfl, by rw [List.length_map]; omega⟩) ?_ | refine Br.t ?_ | refine Br.f ?_)
              refine WP_ret ?_
              obtain rfl := Option.some.inj h
              repeat (first | refine Ob.mk (by first | rfl | omega | assumption | exact ⟨rfl, rfl, (List.length_map _).symm⟩ | exact ⟨rfl, rfl, by rw [List.length_map]; omega⟩) ?_ | refine Br.t ?_ | refine Br.f ?_)
              exact ⟨DLe.refl _, trivial⟩
          · replace h := bif_f b54 h
            repeat (first | refine Ob.mk (by first | rfl | omega | assumption | exact ⟨rfl, rfl, (List.length_map _).symm⟩ | exact ⟨rfl, rfl, by rw [List.length_map]; omega⟩) ?_ | refine Br.t ?_ | refine Br.f ?_)
            refine WP_ret ?_
            obtain rfl := Option.some.inj h
            repeat (first | refine Ob.mk (by first | rfl | omega | assumption | exact ⟨rfl, rfl, (List.length_map _).symm⟩ | exact ⟨rfl, rfl, by rw [List.length_map]; omega⟩) ?_ | refine Br.t ?_ | refine Br.f ?_)
            exact ⟨DLe.refl _, trivial⟩
    rintro ⟨⟨m42, l66, x67⟩, h⟩
    cases m42 with
    | zero => exact nomatch (show (none : Option (Bool)) = some r from h)
    | succ m42 =>
      replace h : g_newellaw13_IndexTurned.l42b n a0 a1 a2 (g_newellaw13_IndexTurned.l42 n a0 a1 a2 m42) l66 x67 = some r := h
      unfold g_newellaw13_IndexTurned.l42b at h
      try dsimp only
      refine WP_seq ?_
      refine WP_seq ?_
      refine vcc_sound _ _ _ tabOk (by exact rfl) ?_
      repeat (first | refine Ob.mk (by first | rfl | omega | assumption | exact ⟨rfl, rfl, (List.length_map _).symm⟩ | exact ⟨rfl, rfl, by rw [List.length_map]; omega⟩) ?_ | refine Br.t ?_ | refine Br.f ?_)
      refine Br.mk (fun b71 => ?_) (fun b71 => ?_)
      · replace h := bif_t b71 h
        repeat (first | refine Ob.mk (by first | rfl | omega | assumption | exact ⟨rfl, rfl, (List.length_map _).symm⟩ | exact ⟨rfl, rfl, by rw [List.length_map]; omega⟩) ?_ | refine Br.t ?_ | refine Br.f ?_)
        refine Br.mk (fun b72 => ?_) (fun b72 => ?_)
        · replace h := bif_t b72 h
          repeat (first | refine Ob.mk (by first | rfl | omega | assumption | exact ⟨rfl, rfl, (List.length_map _).symm⟩ | exact ⟨rfl, rfl, by rw [List.length_map]; omega⟩) ?_ | refine Br.t ?_ | refine Br.f ?_)
          refine vcc_sound _ _ _ tabOk (by exact rfl) ?_
          repeat (first | refine Ob.mk (by first | rfl | omega | assumption | exact ⟨rfl, rfl, (List.length_map _).symm⟩ | exact ⟨rfl, rfl, by rw [List.length_map]; omega⟩) ?_ | refine Br.t ?_ | refine Br.f ?_)
          refine Br.mk (fun b73 => ?_) (fun b73 => ?_)
          · replace h := bif_t b73 h
            refine WP_skip ?_
            refine WP_seq ?_
            refine WP_block ?_
            refine WP_seq ?_
            refine vcc_sound _ _ _ tabOk (by exact rfl) ?_
            obtain ⟨c74, h⟩ := chk_some h
            obtain ⟨c75, h⟩ := chk_some h
            repeat (first | refine Ob.mk (by first | rfl | omega | assumption | exact ⟨rfl, rfl, (List.length_map _).symm⟩ | exact ⟨rfl, rfl, by rw [List.length_map]; omega⟩) ?_ | refine Br.t ?_ | refine Br.f ?_)
            refine cdraw4 tabOk 19 [0, 1, 2, 5, 6, 7, 8, 11, 12, 13] (by kernel_rfl) ?_
            obtain ⟨c76, h⟩ := chk_some h
            obtain ⟨c77, h⟩ := chk_some h
            repeat (first | refine Ob.mk (by first | rfl | omega | assumption | exact ⟨rfl, rfl, (List.length_map _).symm⟩ | exact ⟨rfl, rfl, by rw [List.length_map]; omega⟩) ?_ | refine Br.t ?_ | refine Br.f ?_)
            refine RowAt.ty zItem (by first | omega | (simp only [List.length_set]; omega)) ?_
            obtain ⟨c78, h⟩ := chk_some h
            obtain ⟨c79, h⟩ := chk_some h
            repeat (first | refine Ob.mk (by first | rfl | omega | assumption | exact ⟨rfl, rfl, (List.length_map _).symm⟩ | exact ⟨rfl, rfl, by rw [List.length_map]; omega⟩) ?_ | refine Br.t ?_ | refine Br.f ?_)
            refine RowAt.ty zItem (by first | omega | (simp only [List.length_set]; omega)) ?_
            obtain ⟨c80, h⟩ := chk_some h
            repeat (first | refine Ob.mk (by first | rfl | omega | assumption | exact ⟨rfl, rfl, (List.length_map _).symm⟩ | exact ⟨rfl, rfl, by rw [List.length_map]; omega⟩) ?_ | refine Br.t ?_ | refine Br.f ?_)
            refine RowSet.ty encItem l66 zItem (l66.getD ((IntKind.wrap .i64 ((IntKind.wrap .u64 (a1.getD x67.toNat (0 : Int))).tmod (IntKind.wrap .u64 (l66.length : Int)))).toNat) zItem) rfl (by first | omega | (simp only [List.length_set]; omega)) rfl ?_
            obtain ⟨c81, h⟩ := chk_some h
            repeat (first | refine Ob.mk (by first | rfl | omega | assumption | exact ⟨rfl, rfl, (List.length_map _).symm⟩ | exact ⟨rfl, rfl, by rw [List.length_map]; omega⟩) ?_ | refine Br.t ?_ | refine Br.f ?_)
            refine RowSet.ty encItem (l66.set ((x67.tmod (l66.length : Int)).toNat) (l66.getD ((IntKind.wrap .i64 ((IntKind.wrap .u64 (a1.getD x67.toNat (0 : Int))).tmod (IntKind.wrap .u64 (l66.length : Int)))).toNat) zItem)) zItem (l66.getD ((x67.tmod (l66.length : Int)).toNat) zItem) rfl (by first | omega | (simp only [List.length_set]; omega)) rfl ?_
            repeat (first | refine Ob.mk (by first | rfl | omega | assumption | exact ⟨rfl, rfl, (List.length_map _).symm⟩ | exact ⟨rfl, rfl, by rw [List.length_map]; omega⟩) ?_ | refine Br.t ?_ | refine Br.f ?_)
            refine vcc_sound _ _ _ tabOk (by exact rfl) ?_
            obtain ⟨c82, h⟩ := chk_some h
            repeat (first | refine Ob.mk (by first | rfl | omega | assumption | exact ⟨rfl, rfl, (List.length_map _).symm⟩ | exact ⟨rfl, rfl, by rw [List.length_map]; omega⟩) ?_ | refine Br.t ?_ | refine Br.f ?_)
            repeat (first | refine Ob.mk (by first | rfl | omega | assumption | exact ⟨rfl, rfl, (List.length_map _).symm⟩ | exact ⟨rfl, rfl, by rw [List.length_map]; omega⟩) ?_ | refine Br.t ?_ | refine Br.f ?_)
            exact ⟨⟨(m42, ((l66.set ((x67.tmod (l66.length : Int)).toNat) (l66.getD ((IntKind.wrap .i64 ((IntKind.wrap .u64 (a1.getD x67.toNat (0 : Int))).tmod (IntKind.wrap .u64 (l66.length : Int)))).toNat) zItem)).set ((IntKind.wrap .i64 ((IntKind.wrap .u64 (a1.getD x67.toNat (0 : Int))).tmod (IntKind.wrap .u64 (l66.length : Int)))).toNat) (l66.getD ((x67.tmod (l66.length : Int)).toNat) zItem)), (x67 + 1)), h⟩, Nat.lt_succ_self _, Sub.ofL _ _ (Nat.zero_le _) ⟨rfl, rfl, rfl, rfl, rfl, rfl, congrArg (AV.h _ _ 0) (by first | omega | simp), rfl, rfl, rfl, trivial⟩ rfl rfl⟩
          · replace h := bif_f b73 h
            refine WP_exit ?_
            repeat (first | refine Ob.mk (by first | rfl | omega | assumption | exact ⟨rfl, rfl, (List.length_map _).symm⟩ | exact ⟨rfl, rfl, by rw [List.length_map]; omega⟩) ?_ | refine Br.t ?_ | refine Br.f ?_)
            exact ⟨⟨l66, h⟩, Sub.ofL _ _ (Nat.zero_le _) ⟨rfl, rfl, rfl, rfl, rfl, rfl, trivial⟩ rfl rfl⟩
        · replace h := bif_f b72 h
          repeat (first | refine Ob.mk (by first | rfl | omega | assumption | exact ⟨rfl, rfl, (List.length_map _).symm⟩ | exact ⟨rfl, rfl, by rw [List.length_map]; omega⟩) ?_ | refine Br.t ?_ | refine Br.f ?_)
          refine vcc_sound _ _ _ tabOk (by exact rfl) ?_
          repeat (first | refine Ob.mk (by first | rfl | omega | assumption | exact ⟨rfl, rfl, (List.length_map _).symm⟩ | exact ⟨rfl, rfl, by rw [List.length_map]; omega⟩) ?_ | refine Br.t ?_ | refine Br.f ?_)
          refine WP_exit ?_
          repeat (first | refine Ob.mk (by first | rfl | omega | assumption | exact ⟨rfl, rfl, (List.length_map _).symm⟩ | exact ⟨rfl, rfl, by rw [List.length_map]; omega⟩) ?_ | refine Br.t ?_ | refine Br.f ?_)
          exact ⟨⟨l66, h⟩, Sub.ofL _ _ (Nat.zero_le _) ⟨rfl, rfl, rfl, rfl, rfl, rfl, trivial⟩ rfl rfl⟩
      · replace h := bif_f b71 h
        repeat (first | refine Ob.mk (by first | rfl | omega | assumption | exact ⟨rfl, rfl, (List.length_map _).symm⟩ | exact ⟨rfl, rfl, by rw [List.length_map]; omega⟩) ?_ | refine Br.t ?_ | refine Br.f ?_)
        refine vcc_sound _ _ _ tabOk (by exact rfl) ?_
        repeat (first | refine Ob.mk (by first | rfl | omega | assumption | exact ⟨rfl, rfl, (List.length_map _).symm⟩ | exact ⟨rfl, rfl, by rw [List.length_map]; omega⟩) ?_ | refine Br.t ?_ | refine Br.f ?_)
        refine WP_exit ?_
        repeat (first | refine Ob.mk (by first | rfl | omega | assumption | exact ⟨rfl, rfl, (List.length_map _).symm⟩ | exact ⟨rfl, rfl, by rw [List.length_map]; omega⟩) ?_ | refine Br.t ?_ | refine Br.f ?_)
        exact ⟨⟨l66, h⟩, Sub.ofL _ _ (Nat.zero_le _) ⟨rfl, rfl, rfl, rfl, rfl, rfl, trivial⟩ rfl rfl⟩

end Go.Proofs.Nw.K
end
section
/- QL11: plain law IndexTurned. -/
open Go Go.RowKit Go.Proofs Go.Sort Go.Shelf
set_option linter.unusedVariables false
set_option linter.unusedSimpArgs false
namespace Go.Proofs.Nw.K

/-! ### few -/
theorem few13_loop (n : Nat) (l : List Item) (hl : l.length ≤ 4194304) : ∀ (m i : Nat), i ≤ l.length → l.length < i + m → ∃ b, g_newellaw13_few.l14 n l m (i : Int) = some b ∧ (b = true → l.length ≤ 40)
  | 0, i, h1, h => by omega
  | m + 1, i, h1, h => by
    unfold g_newellaw13_few.l14 g_newellaw13_few.l14b
    rw [decN]
    by_cases hi : i < l.length
    · rw [decide_eq_true hi, cond_true, chk_at hi]
      cases hb : decide ((((l.getD (i : Int).toNat zItem).coord.version).size : Int) > 150) with
      | true => exact ⟨false, rfl, fun h => by cases h⟩
      | false =>
        rw [cond_false, chk_t (in64_nat (by omega)), show (i : Int) + 1 = ((i + 1 : Nat) : Int) by omega]
        exact few13_loop n l hl m (i + 1) hi (by omega)
    · rw [decide_eq_false hi, cond_false]
      refine ⟨_, rfl, fun h => ?_⟩
      have := of_decide_eq_true h
      omega
theorem few13 (n : Nat) (l : List Item) (hl : l.length ≤ 4194304) (hn : l.length < n) : ∃ b, g_newellaw13_few n l = some b ∧ (b = true → l.length ≤ 40) :=
  few13_loop n l hl n 0 (Nat.zero_le _) (by omega)

/-! ### two lists of coords -/
theorem plainC_loop (n : Nat) (a : List Coord) (hl : a.length ≤ 4194304) : ∀ (m i : Nat), i ≤ a.length → a.length < i + m → g_newelhelp_Same_api_Coord__newelhelp_Plain_api_Coord_1.l20 n a a m (i : Int) = some true
  | 0, i, h1, h => by omega
  | m + 1, i, h1, h => by
    unfold g_newelhelp_Same_api_Coord__newelhelp_Plain_api_Coord_1.l20 g_newelhelp_Same_api_Coord__newelhelp_Plain_api_Coord_1.l20b
    rw [decN]
    by_cases hi : i < a.length
    · rw [decide_eq_true hi, cond_true, chk_at hi, chk_at hi]
      unfold g_newelhelp_Plain_api_Coord_1
      rw [Option.bind_some, eqStrs_iff _ _ rfl, decide_eq_true rfl, Bool.not_true, cond_false, chk_t (in64_nat (by omega)), show (i : Int) + 1 = ((i + 1 : Nat) : Int) by omega]
      exact plainC_loop n a hl m (i + 1) hi (by omega)
    · rw [decide_eq_false hi, cond_false]
      rfl
theorem plainC (n : Nat) (a : List Coord) (hl : a.length ≤ 4194304) (hn : a.length < n) : g_newelhelp_Plain_api_Coord n a a = some true := by
  unfold g_newelhelp_Plain_api_Coord g_newelhelp_Same_api_Coord__newelhelp_Plain_api_Coord_1
  rw [show ((a.length : Int) != (a.length : Int)) = false by simp, cond_false, show (0 : Int) = ((0 : Nat) : Int) from rfl, plainC_loop n a hl n 0 (Nat.zero_le _) (by omega)]
  rfl

/-! ### what is told -/
theorem lookT_cons (c : Coord) (it : Item) (r : List Item) : lookT c (it :: r) = if c = it.coord then it.text else lookT c r := rfl
theorem lookT_in : ∀ (l : List Item), (l.map (·.coord)).Nodup → ∀ it ∈ l, lookT it.coord l = it.text
  | [], _, it, h => by cases h
  | x :: r, hn, it, h => by
    simp only [List.map_cons, List.nodup_cons] at hn
    rw [lookT_cons]
    rcases List.mem_cons.1 h with rfl | h
    · rw [if_pos rfl]
    · rw [if_neg (fun e : it.coord = x.coord => hn.1 (by rw [← e]; exact List.mem_map.2 ⟨it, h, rfl⟩))]
      exact lookT_in r hn.2 it h
theorem lookT_out (c : Coord) : ∀ (l : List Item), c ∉ l.map (·.coord) → lookT c l = emp
  | [], _ => rfl
  | x :: r, h => by
    simp only [List.map_cons, List.mem_cons, not_or] at h
    rw [lookT_cons, if_neg h.1]
    exact lookT_out c r h.2
theorem lookT_perm (c : Coord) {l m : List Item} (hp : m.Perm l) (hn : (l.map (·.coord)).Nodup) : lookT c m = lookT c l := by
  have hpc := hp.map (·.coord)
  by_cases h : c ∈ l.map (·.coord)
  · obtain ⟨it, hi, rfl⟩ := List.mem_map.1 h
    rw [lookT_in l hn it hi, lookT_in m (hpc.nodup_iff.2 hn) it (hp.mem_iff.2 hi)]
  · rw [lookT_out c l h, lookT_out c m (fun h2 => h (hpc.mem_iff.1 h2))]
theorem lookM_upd {α β : Type} [DecidableEq α] (p q : α) (z x : β) : ∀ (V : List (α × β)), lookM z p (updM q x V) = if p = q then x else lookM z p V
  | [] => by simp only [updM, lookM]
  | (a, u) :: r => by
    have ih := lookM_upd p q z x r
    unfold updM
    by_cases h : q = a
    · subst h
      rw [if_pos rfl]
      simp only [lookM]
      split <;> rfl
    · rw [if_neg h]
      simp only [lookM, ih]
      by_cases h2 : p = a
      · subst h2
        rw [if_pos rfl, if_pos rfl, if_neg (fun e => h e.symm)]
      · rw [if_neg h2, if_neg h2]
theorem versL (p : Pj) (l : List Coord) : lookM [] p (versOf l) = (l.filter fun c => decide (p = prj c)).map (·.version) := by
  have key : ∀ (n : Nat) (l : List Coord), l.length = n → lookM [] p (versOf l) = (l.filter fun c => decide (p = prj c)).map (·.version) := by
    intro n
    induction n with
    | zero => intro l hl; rw [List.eq_nil_of_length_eq_zero hl]; rfl
    | succ n ih =>
      intro l hl
      obtain ⟨r, c, rfl⟩ : ∃ r c, l = r ++ [c] := ⟨l.dropLast, l.getLast (by intro h; simp [h] at hl), (List.dropLast_concat_getLast _).symm⟩
      have hr : r.length = n := by simpa using hl
      rw [versOf_snoc, versT, lookM_upd, List.filter_append, List.map_append, ← ih r hr]
      by_cases h : p = prj c
      · subst h
        simp
      · simp [h]
  exact key l.length l rfl
theorem sortCo_perm (l : List Coord) : (sortCo l).Perm l := List.mergeSort_perm l _
theorem sortCo_pair (l : List Coord) : (sortCo l).Pairwise fun a b => coordC a b ≤ 0 := by
  have := List.pairwise_mergeSort (le := fun x y => !(ltOf coordC) y x) (fun a b c h1 h2 => by
    simp only [ltOf, Bool.not_eq_true', decide_eq_false_iff_not] at *
    have a1 := totCo.anti a b
    have a2 := totCo.anti b c
    have a3 := totCo.anti a c
    have := totCo.trans a b c (by omega) (by omega)
    omega) (fun a b => by
    simp only [ltOf, Bool.or_eq_true, Bool.not_eq_true', decide_eq_false_iff_not]
    have := totCo.anti a b
    omega) l
  refine List.Pairwise.imp (fun {a b} h => ?_) this
  simp only [ltOf, Bool.not_eq_true', decide_eq_false_iff_not] at h
  have := totCo.anti a b
  omega
theorem sortCo_same {a b : List Coord} (h : a.Perm b) : sortCo a = sortCo b :=
  List.Perm.eq_of_pairwise (fun x y _ _ h1 h2 => coordC_zero (by have := totCo.anti x y; omega)) (sortCo_pair a) (sortCo_pair b) (((sortCo_perm a).trans h).trans (sortCo_perm b).symm)

theorem newE_perm {l m : List Item} (hp : m.Perm l) : (newE okC m == 0) = (newE okC l == 0) := by
  have key : newE okC m = 0 ↔ newE okC l = 0 := by
    rw [newE_zero, newE_zero, hp.length_eq, (hp.map (·.coord)).nodup_iff]
    constructor
    · rintro ⟨h1, h2, h3⟩; exact ⟨h1, fun it hi => h2 it (hp.mem_iff.2 hi), h3⟩
    · rintro ⟨h1, h2, h3⟩; exact ⟨h1, fun it hi => h2 it (hp.mem_iff.1 hi), h3⟩
  by_cases h : newE okC l = 0
  · rw [h, key.2 h]
  · rw [beq_eq_false_iff_ne.2 h, beq_eq_false_iff_ne.2 (fun e => h (key.1 e))]
theorem tells {l m : List Item} (hp : m.Perm l) (c : Coord) (p : Pj) : findI c (newR m) = findI c (newR l) ∧ versI p (newR m) = versI p (newR l) ∧ coordsI (newR m) = coordsI (newR l) ∧ lenI (newR m) = lenI (newR l) ∧ (coordsI (newR l)).length ≤ l.length ∧ (versI p (newR l)).length ≤ l.length := by
  have hE := newE_perm hp
  by_cases h : newE okC l = 0
  · have hm : newE okC m = 0 := by rw [h] at hE; simpa using hE
    have e1 : newR l = some l := by unfold newR; rw [if_pos h]
    have e2 : newR m = some m := by unfold newR; rw [if_pos hm]
    rw [e1, e2]
    obtain ⟨h1, h2, h3⟩ := (newE_zero okC l).1 h
    have hpc := hp.map (·.coord)
    refine ⟨?_, ?_, ?_, ?_, ?_, ?_⟩
    · show (lookT c m, (fndM c (textT m)).isSome) = (lookT c l, (fndM c (textT l)).isSome)
      rw [lookT_perm c hp h3, fnd_textT, fnd_textT]
      exact congrArg _ (decide_eq_decide.2 hpc.mem_iff)
    · show sortV (lookM [] p (versOf (m.map (·.coord)))) = sortV (lookM [] p (versOf (l.map (·.coord))))
      rw [versL, versL]
      exact sortV_same2 ((hpc.filter _).map _)
    · exact sortCo_same hpc
    · show (m.length : Int) = (l.length : Int)
      rw [hp.length_eq]
    · show (sortCo (l.map (·.coord))).length ≤ _
      rw [sortCo_length, List.length_map]
      exact Nat.le_refl _
    · show (sortV (lookM [] p (versOf (l.map (·.coord))))).length ≤ _
      rw [versL, sortV_length, List.length_map]
      have := List.length_filter_le (fun c => decide (p = prj c)) (l.map (·.coord))
      rwa [List.length_map] at this
  · have hm : newE okC m ≠ 0 := by
      intro e
      rw [e] at hE
      exact h (by simpa using hE.symm)
    have e1 : newR l = none := by unfold newR; rw [if_neg h]
    have e2 : newR m = none := by unfold newR; rw [if_neg hm]
    rw [e1, e2]
    exact ⟨rfl, rfl, rfl, rfl, Nat.zero_le _, Nat.zero_le _⟩

theorem turned_k42 (n : Nat) (hn : 50 ≤ n) (l m : List Item) (c : Coord) (hp : m.Perm l) (hl : l.length ≤ 40) : g_newellaw13_IndexTurned.k42 n l c m = some true := by
  obtain ⟨t1, t2, t3, t4, t5, t6⟩ := tells hp c (c.group, c.name)
  unfold g_newellaw13_IndexTurned.k42 g_index_New g_newellaw13_awake
  rw [Option.bind_some, Option.bind_some, Option.bind_some, Bool.not_true, cond_false]
  show (bif !((newE okC l == 0) == (newE okC m == 0)) then some false else _) = some true
  rw [newE_perm hp, beq_self_eq_true, Bool.not_true, cond_false]
  have f1 : ∀ x, g_index_Index_Find n (ixNew x) c = some (findI c (newR x)) := fun x => rfl
  have f2 : ∀ x, g_index_Index_Versions n (ixNew x) c.group c.name = some (versI (c.group, c.name) (newR x)) := fun x => rfl
  have f3 : ∀ x, g_index_Index_Coords n (ixNew x) = some (coordsI (newR x)) := fun x => rfl
  have f4 : ∀ x, g_index_Index_Len n (ixNew x) = some (lenI (newR x)) := fun x => rfl
  rw [f1, Option.bind_some, f1, Option.bind_some, t1, beq_self_eq_true, cond_true, beq_self_eq_true, cond_true, f2, Option.bind_some, f2, Option.bind_some, t2, plain_eq n _ _ (by omega) (by omega), Option.bind_some, decide_eq_true rfl, cond_true,
    f3, Option.bind_some, f3, Option.bind_some, t3, plainC n _ (by omega) (by omega), Option.bind_some, cond_true, f4, Option.bind_some, f4, Option.bind_some, t4, beq_self_eq_true]
theorem mod_len' (a : Int) (k : Nat) (hk : 0 < k) (hk2 : k ≤ 40) : IntKind.wrap .u64 (k : Int) = (k : Int) ∧ ∃ i : Nat, i < k ∧ IntKind.wrap .i64 ((IntKind.wrap .u64 a).tmod (k : Int)) = (i : Int) := by
  obtain ⟨i, hi, _, e⟩ := modN2 a k hk (by omega)
  refine ⟨?_, i, hi, e⟩
  simp only [IntKind.wrap, IntKind.bits, IntKind.signed]
  simp
  omega
theorem swap_permI (m : List Item) (i k : Nat) (hi : i < m.length) (hk : k < m.length) : ((m.set i (m.getD k zItem)).set k (m.getD i zItem)).Perm m := by
  have e1 : m.getD k zItem = m[k] := by rw [List.getD_eq_getElem?_getD, List.getElem?_eq_getElem hk]; rfl
  have e2 : m.getD i zItem = m[i] := by rw [List.getD_eq_getElem?_getD, List.getElem?_eq_getElem hi]; rfl
  rw [e1, e2]
  exact List.set_set_perm hi hk
theorem turned_loop (n : Nat) (hn : 50 ≤ n) (l : List Item) (t : List Int) (c : Coord) (hl : l.length ≤ 40) : ∀ (f i : Nat) (m : List Item), i ≤ 40 → 40 < i + f → m.Perm l → g_newellaw13_IndexTurned.l42 n l t c f m (i : Int) = some true
  | 0, i, m, h1, h2, _ => by omega
  | f + 1, i, m, h1, h2, hp => by
    have hk := turned_k42 n hn l m c hp hl
    unfold g_newellaw13_IndexTurned.l42 g_newellaw13_IndexTurned.l42b
    rw [decN]
    by_cases c1 : i < t.length
    · rw [decide_eq_true c1, cond_true]
      by_cases c2 : (i : Int) < 40
      · rw [decide_eq_true c2, cond_true]
        by_cases c3 : (m.length : Int) > 0
        · have hml := hp.length_eq
          have hpos : 0 < m.length := by omega
          obtain ⟨w1, k, hk1, w2⟩ := mod_len' (t.getD (i : Int).toNat (0 : Int)) m.length hpos (by omega)
          have hq : (i : Int).tmod (m.length : Int) = ((i % m.length : Nat) : Int) := by rw [Int.tmod_eq_emod_of_nonneg (by omega)]; simp
          have hq2 : i % m.length < m.length := Nat.mod_lt _ hpos
          rw [decide_eq_true c3, cond_true, chk_at c1, w1, w2, hq, chk_t (by omega), chk_t (by omega), chk_at hk1, chk_t (by omega), chk_at hq2, chk_at hq2, chk_at hk1, chk_t (in64_nat (by omega)), Int.toNat_natCast, Int.toNat_natCast, show (i : Int) + 1 = ((i + 1 : Nat) : Int) by omega]
          exact turned_loop n hn l t c hl f (i + 1) _ (by omega) (by omega) ((swap_permI m _ _ hq2 hk1).trans hp)
        · rw [decide_eq_false c3, cond_false]; exact hk
      · rw [decide_eq_false c2, cond_false]; exact hk
    · rw [decide_eq_false c1, cond_false]; exact hk
theorem indexTurned_eq (l : List Item) (t : List Int) (c : Coord) (hl : l.length ≤ 4194304) : g_newellaw13_IndexTurned (l.length + 50) l t c = some true := by
  unfold g_newellaw13_IndexTurned
  obtain ⟨b, h1, h2⟩ := few13 (l.length + 50) l hl (by omega)
  rw [h1, Option.bind_some]
  cases b with
  | false => rfl
  | true =>
    have := h2 rfl
    rw [Bool.not_true, cond_false, chk_t (by unfold room; omega)]
    exact turned_loop _ (by omega) l t c this (l.length + 50) 0 l (by omega) (by omega) (List.Perm.refl _)
theorem IndexTurned_impl (l : List Item) (t : List Int) (c : Coord) (_ : l.length ≤ maxLen ∧ ∀ s ∈ l, True) (_ : t.length ≤ maxLen ∧ ∀ s ∈ t, isInt s) (_ : True) (h : (l.map Item.wt).sum + 1 + ((t.map (fun _ => 1)).sum + 1) + c.wt ≤ 1048576) :
    Impl Tryd.prog 10 [.one (.tl Item 4 encItem zItem l), .one (.tl Int 1 encInt (0 : Int) t), .agg (encCoord c)] [.one (.sc (.bool true))] := by
  have e : ∀ l : List Item, l.length ≤ (l.map Item.wt).sum := fun l => by induction l with
    | nil => exact Nat.le_refl _
    | cons x r ih =>
      have : 1 ≤ x.wt := by unfold Item.wt; omega
      simp only [List.map_cons, List.sum_cons, List.length_cons]; omega
  have := e l
  exact g_newellaw13_IndexTurned.ok (l.length + 50) l t c true (indexTurned_eq l t c (by omega))
end Go.Proofs.Nw.K
end
