/- Bundle 12: NwQP6, NwSK, NwQI0, NwK30, NwK31. -/
import Derived.Test.YtblenipidihemaaDoorNwA11
import Derived.Laws.MakeOwn
section
/- Printed by a program of mine (pg.py): functions that may have no answer, and that the code comes to them. -/
open Go Go.RowKit Go.Proofs
set_option linter.unusedVariables false
set_option linter.unusedSimpArgs false
set_option maxHeartbeats 1000000
namespace Go.Proofs.Nw.K

/-! ### newel/newellaw13.few -/
def g_newellaw13_few.k14 (n : Nat) (a0 : (List Item)) : Option (Bool) :=
  some (decide ((a0.length : Int) ≤ 40))
def g_newellaw13_few.l14b (n : Nat) (a0 : (List Item)) (rec14 : Int → Option (Bool)) (x15 : Int) : Option (Bool) :=
  bif (decide (x15 < (a0.length : Int))) then (
    chk (0 ≤ x15 ∧ x15 < (a0.length : Int)) <|
    bif (decide ((((a0.getD x15.toNat zItem).coord.version).size : Int) > 150)) then (
      some false
    ) else (
      chk (in64 (x15 + 1)) <|
      rec14 (x15 + 1)
    )
  ) else (
    g_newellaw13_few.k14 n a0
  )
def g_newellaw13_few.l14 (n : Nat) (a0 : (List Item)) : Nat → Int → Option (Bool)
  | 0, _ => none
  | m + 1, x15 => g_newellaw13_few.l14b n a0 (g_newellaw13_few.l14 n a0 m) x15
def g_newellaw13_few (n : Nat) (a0 : (List Item)) : Option (Bool) :=
  g_newellaw13_few.l14 n a0 n 0
theorem g_newellaw13_few.ok (n : Nat) (a0 : (List Item)) (r : Bool) (h : g_newellaw13_few n a0 = some r) : Impl Tryd.prog 28 [.one (.tl Item 4 encItem zItem a0)] [.one (dbool r)] := by
  refine impl_wp tabOk Tryd.func28 rfl rfl (by kernel_rfl) ?_
  unfold g_newellaw13_few at h
  refine WP_seq ?_
  refine vcc_sound _ _ _ tabOk (by exact rfl) ?_
  repeat (first | refine Ob.mk (by first | rfl | omega | assumption | exact ⟨rfl, rfl, (List.length_map _).symm⟩ | exact ⟨rfl, rfl, by rw [List.length_map]; omega⟩) ?_ | refine Br.t ?_ | refine Br.f ?_)
  refine WP_seq ?_
  refine WP_seq ?_
  refine vcc_sound _ _ _ tabOk (by exact rfl) ?_
  repeat (first | refine Ob.mk (by first | rfl | omega | assumption | exact ⟨rfl, rfl, (List.length_map _).symm⟩ | exact ⟨rfl, rfl, by rw [List.length_map]; omega⟩) ?_ | refine Br.t ?_ | refine Br.f ?_)
  refine WP_cutQ (α := {p : Unit // g_newellaw13_few.k14 n a0 = some r}) (fun p => ofL [(0, .d (.tl Item 4 encItem zItem a0))]) (fun p => []) (WP_block (WP_loop (α := {x : Nat × Int // g_newellaw13_few.l14 n a0 x.1 x.2 = some r}) (fun x => ofL [(0, .d (.tl Item 4 encItem zItem a0)), (3, .int x.1.2)]) (fun x => []) (fun x => x.1.1) ⟨(n, 0), h⟩ (Sub.ofL _ _ (Nat.zero_le _) ⟨rfl, rfl, rfl, rfl, trivial⟩ rfl rfl) ?_)) ?_
  rotate_left
  · rintro ⟨⟨⟩, h⟩ env st hs
    replace h : g_newellaw13_few.k14 n a0 = some r := h
    unfold g_newellaw13_few.k14 at h
    refine WP_sub hs ?_
    try dsimp only
    refine WP_seq ?_
    refine vcc_sound _ _ _ tabOk (by exact rfl) ?_
    repeat (first | refine Ob.mk (by first | rfl | omega | assumption | exact ⟨rfl, rfl, (List.length_map _).symm⟩ | exact ⟨rfl, rfl, by rw [List.length_map]; omega⟩) ?_ | refine Br.t ?_ | refine Br.f ?_)
    refine WP_ret ?_
    obtain rfl := Option.some.inj h
    repeat (first | refine Ob.mk (by first | rfl | omega | assumption | exact ⟨rfl, rfl, (List.length_map _).symm⟩ | exact ⟨rfl, rfl, by rw [List.length_map]; omega⟩) ?_ | refine Br.t ?_ | refine Br.f ?_)
    exact ⟨DLe.refl _, trivial⟩
  rintro ⟨⟨m14, x15⟩, h⟩
  cases m14 with
  | zero => exact nomatch (show (none : Option (Bool)) = some r from h)
  | succ m14 =>
    replace h : g_newellaw13_few.l14b n a0 (g_newellaw13_few.l14 n a0 m14) x15 = some r := h
    unfold g_newellaw13_few.l14b at h
    try dsimp only
    refine WP_seq ?_
    refine WP_seq ?_
    refine vcc_sound _ _ _ tabOk (by exact rfl) ?_
    repeat (first | refine Ob.mk (by first | rfl | omega | assumption | exact ⟨rfl, rfl, (List.length_map _).symm⟩ | exact ⟨rfl, rfl, by rw [List.length_map]; omega⟩) ?_ | refine Br.t ?_ | refine Br.f ?_)
    refine vcc_sound _ _ _ tabOk (by exact rfl) ?_
    repeat (first | refine Ob.mk (by first | rfl | omega | assumption | exact ⟨rfl, rfl, (List.length_map _).symm⟩ | exact ⟨rfl, rfl, by rw [List.length_map]; omega⟩) ?_ | refine Br.t ?_ | refine Br.f ?_)
    refine Br.mk (fun b17 => ?_) (fun b17 => ?_)
    · replace h := bif_t b17 h
      refine WP_skip ?_
      refine WP_seq ?_
      refine WP_block ?_
      refine WP_seq ?_
      refine vcc_sound _ _ _ tabOk (by exact rfl) ?_
      obtain ⟨c18, h⟩ := chk_some h
      repeat (first | refine Ob.mk (by first | rfl | omega | assumption | exact ⟨rfl, rfl, (List.length_map _).symm⟩ | exact ⟨rfl, rfl, by rw [List.length_map]; omega⟩) ?_ | refine Br.t ?_ | refine Br.f ?_)
      refine vcc_sound _ _ _ tabOk (by exact rfl) ?_
      repeat (first | refine Ob.mk (by first | rfl | omega | assumption | exact ⟨rfl, rfl, (List.length_map _).symm⟩ | exact ⟨rfl, rfl, by rw [List.length_map]; omega⟩) ?_ | refine Br.t ?_ | refine Br.f ?_)
      refine Br.mk (fun b19 => ?_) (fun b19 => ?_)
      · replace h := bif_t b19 h
        refine WP_seq ?_
        refine vcc_sound _ _ _ tabOk (by exact rfl) ?_
        repeat (first | refine Ob.mk (by first | rfl | omega | assumption | exact ⟨rfl, rfl, (List.length_map _).symm⟩ | exact ⟨rfl, rfl, by rw [List.length_map]; omega⟩) ?_ | refine Br.t ?_ | refine Br.f ?_)
        refine WP_ret ?_
        obtain rfl := Option.some.inj h
        repeat (first | refine Ob.mk (by first | rfl | omega | assumption | exact ⟨rfl, rfl, (List.length_map _).symm⟩ | exact ⟨rfl, rfl, by rw [List.length_map]; omega⟩) ?_ | refine Br.t ?_ | refine Br.f ?_)
        exact ⟨DLe.refl _, trivial⟩
      · replace h := bif_f b19 h
        refine WP_skip ?_
        refine vcc_sound _ _ _ tabOk (by exact rfl) ?_
        obtain ⟨c20, h⟩ := chk_some h
        repeat (first | refine Ob.mk (by first | rfl | omega | assumption | exact ⟨rfl, rfl, (List.length_map _).symm⟩ | exact ⟨rfl, rfl, by rw [List.length_map]; omega⟩) ?_ | refine Br.t ?_ | refine Br.f ?_)
        repeat (first | refine Ob.mk (by first | rfl | omega | assumption | exact ⟨rfl, rfl, (List.length_map _).symm⟩ | exact ⟨rfl, rfl, by rw [List.length_map]; omega⟩) ?_ | refine Br.t ?_ | refine Br.f ?_)
        exact ⟨⟨(m14, (x15 + 1)), h⟩, Nat.lt_succ_self _, Sub.ofL _ _ (Nat.zero_le _) ⟨rfl, rfl, rfl, rfl, trivial⟩ rfl rfl⟩
    · replace h := bif_f b17 h
      refine WP_exit ?_
      repeat (first | refine Ob.mk (by first | rfl | omega | assumption | exact ⟨rfl, rfl, (List.length_map _).symm⟩ | exact ⟨rfl, rfl, by rw [List.length_map]; omega⟩) ?_ | refine Br.t ?_ | refine Br.f ?_)
      exact ⟨⟨(), h⟩, Sub.ofL _ _ (Nat.zero_le _) ⟨rfl, rfl, trivial⟩ rfl rfl⟩

/-! ### newel/coord.Compare -/
def g_coord_Compare (n : Nat) (a0 : Coord) (a1 : Coord) : Option (Int) :=
  (g_cmp_Compare_string n a0.group a1.group).bind fun y1 =>
  (g_cmp_Compare_string n a0.name a1.name).bind fun y2 =>
  (g_order_Compare n a0.version a1.version).bind fun y3 =>
  (g_cmp_Compare_string n a0.version a1.version).bind fun y4 =>
  (g_cmp_Or_int n [y1, y2, y3, y4]).bind fun y5 =>
  some y5
theorem g_coord_Compare.ok (n : Nat) (a0 : Coord) (a1 : Coord) (r : Int) (h : g_coord_Compare n a0 a1 = some r) : Impl Tryd.prog 49 [.agg (encCoord a0), .agg (encCoord a1)] [.one (dint r)] := by
  refine impl_wp tabOk Tryd.func49 rfl rfl (by kernel_rfl) ?_
  unfold g_coord_Compare at h
  refine WP_seq ?_
  refine vcc_sound _ _ _ tabOk (by exact rfl) ?_
  repeat (first | refine Ob.mk (by first | rfl | omega | assumption | exact ⟨rfl, rfl, (List.length_map _).symm⟩ | exact ⟨rfl, rfl, by rw [List.length_map]; omega⟩) ?_ | refine Br.t ?_ | refine Br.f ?_)
  refine WP_seq ?_
  refine cdraw1 tabOk (by kernel_rfl) ?_
  obtain ⟨y1, hy1, h⟩ := bind_some h
  repeat (first | refine Ob.mk (by first | rfl | omega | assumption | exact ⟨rfl, rfl, (List.length_map _).symm⟩ | exact ⟨rfl, rfl, by rw [List.length_map]; omega⟩) ?_ | refine Br.t ?_ | refine Br.f ?_)
  refine CallD.mk _ _ (g_cmp_Compare_string.ok n a0.group a1.group y1 hy1) (by exact ⟨DLe.refl _, DLe.refl _, trivial⟩) ?_
  obtain ⟨y2, hy2, h⟩ := bind_some h
  repeat (first | refine Ob.mk (by first | rfl | omega | assumption | exact ⟨rfl, rfl, (List.length_map _).symm⟩ | exact ⟨rfl, rfl, by rw [List.length_map]; omega⟩) ?_ | refine Br.t ?_ | refine Br.f ?_)
  refine CallD.mk _ _ (g_cmp_Compare_string.ok n a0.name a1.name y2 hy2) (by exact ⟨DLe.refl _, DLe.refl _, trivial⟩) ?_
  obtain ⟨y3, hy3, h⟩ := bind_some h
  repeat (first | refine Ob.mk (by first | rfl | omega | assumption | exact ⟨rfl, rfl, (List.length_map _).symm⟩ | exact ⟨rfl, rfl, by rw [List.length_map]; omega⟩) ?_ | refine Br.t ?_ | refine Br.f ?_)
  refine CallD.mk _ _ (g_order_Compare.ok n a0.version a1.version y3 hy3) (by exact ⟨DLe.refl _, DLe.refl _, trivial⟩) ?_
  obtain ⟨y4, hy4, h⟩ := bind_some h
  repeat (first | refine Ob.mk (by first | rfl | omega | assumption | exact ⟨rfl, rfl, (List.length_map _).symm⟩ | exact ⟨rfl, rfl, by rw [List.length_map]; omega⟩) ?_ | refine Br.t ?_ | refine Br.f ?_)
  refine CallD.mk _ _ (g_cmp_Compare_string.ok n a0.version a1.version y4 hy4) (by exact ⟨DLe.refl _, DLe.refl _, trivial⟩) ?_
  repeat (first | refine Ob.mk (by first | rfl | omega | assumption | exact ⟨rfl, rfl, (List.length_map _).symm⟩ | exact ⟨rfl, rfl, by rw [List.length_map]; omega⟩) ?_ | refine Br.t ?_ | refine Br.f ?_)
  refine NewS.ty encInt (0 : Int) [y1, y2, y3, y4] rfl ?_
  obtain ⟨y5, hy5, h⟩ := bind_some h
  repeat (first | refine Ob.mk (by first | rfl | omega | assumption | exact ⟨rfl, rfl, (List.length_map _).symm⟩ | exact ⟨rfl, rfl, by rw [List.length_map]; omega⟩) ?_ | refine Br.t ?_ | refine Br.f ?_)
  refine CallD.mk _ _ (g_cmp_Or_int.ok n [y1, y2, y3, y4] y5 hy5) (by exact ⟨DLe.refl _, trivial⟩) ?_
  repeat (first | refine Ob.mk (by first | rfl | omega | assumption | exact ⟨rfl, rfl, (List.length_map _).symm⟩ | exact ⟨rfl, rfl, by rw [List.length_map]; omega⟩) ?_ | refine Br.t ?_ | refine Br.f ?_)
  refine WP_ret ?_
  obtain rfl := Option.some.inj h
  repeat (first | refine Ob.mk (by first | rfl | omega | assumption | exact ⟨rfl, rfl, (List.length_map _).symm⟩ | exact ⟨rfl, rfl, by rw [List.length_map]; omega⟩) ?_ | refine Br.t ?_ | refine Br.f ?_)
  exact ⟨DLe.refl _, trivial⟩

/-! ### newel/coord.letter -/
def g_coord_letter (n : Nat) (a0 : Int) : Option (Bool) :=
  bif (decide (a0 ≥ 65)) then (
    bif (decide (a0 ≤ 90)) then (
      some true
    ) else (
      bif (decide (a0 ≥ 97)) then (
        bif (decide (a0 ≤ 122)) then (
          some true
        ) else (
          bif (decide (a0 ≥ 48)) then (
            bif (decide (a0 ≤ 57)) then (
              some true
            ) else (
              bif (a0 == 95) then (
                some true
              ) else (
                bif (a0 == 45) then (
                  some true
                ) else (
                  some (a0 == 46)
                )
              )
            )
          ) else (
            bif (a0 == 95) then (
              some true
            ) else (
              bif (a0 == 45) then (
                some true
              ) else (
                some (a0 == 46)
              )
            )
          )
        )
      ) else (
        bif (decide (a0 ≥ 48)) then (
          bif (decide (a0 ≤ 57)) then (
            some true
          ) else (
            bif (a0 == 95) then (
              some true
            ) else (
              bif (a0 == 45) then (
                some true
              ) else (
                some (a0 == 46)
              )
            )
          )
        ) else (
          bif (a0 == 95) then (
            some true
          ) else (
            bif (a0 == 45) then (
              some true
            ) else (
              some (a0 == 46)
            )
          )
        )
      )
    )
  ) else (
    bif (decide (a0 ≥ 97)) then (
      bif (decide (a0 ≤ 122)) then (
        some true
      ) else (
        bif (decide (a0 ≥ 48)) then (
          bif (decide (a0 ≤ 57)) then (
            some true
          ) else (
            bif (a0 == 95) then (
              some true
            ) else (
              bif (a0 == 45) then (
                some true
              ) else (
                some (a0 == 46)
              )
            )
          )
        ) else (
          bif (a0 == 95) then (
            some true
          ) else (
            bif (a0 == 45) then (
              some true
            ) else (
              some (a0 == 46)
            )
          )
        )
      )
    ) else (
      bif (decide (a0 ≥ 48)) then (
        bif (decide (a0 ≤ 57)) then (
          some true
        ) else (
          bif (a0 == 95) then (
            some true
          ) else (
            bif (a0 == 45) then (
              some true
            ) else (
              some (a0 == 46)
            )
          )
        )
      ) else (
        bif (a0 == 95) then (
          some true
        ) else (
          bif (a0 == 45) then (
            some true
          ) else (
            some (a0 == 46)
          )
        )
      )
    )
  )
theorem g_coord_letter.ok (n : Nat) (a0 : Int) (r : Bool) (h : g_coord_letter n a0 = some r) : Impl Tryd.prog 96 [.one (dbyte a0)] [.one (dbool r)] := by
  refine impl_wp tabOk Tryd.func96 rfl rfl (by kernel_rfl) ?_
  unfold g_coord_letter at h
  refine WP_seq ?_
  refine vcc_sound _ _ _ tabOk (by exact rfl) ?_
  repeat (first | refine Ob.mk (by first | rfl | omega | assumption | exact ⟨rfl, rfl, (List.length_map _).symm⟩ | exact ⟨rfl, rfl, by rw [List.length_map]; omega⟩) ?_ | refine Br.t ?_ | refine Br.f ?_)
  refine WP_seq ?_
  refine vcc_sound _ _ _ tabOk (by exact rfl) ?_
  repeat (first | refine Ob.mk (by first | rfl | omega | assumption | exact ⟨rfl, rfl, (List.length_map _).symm⟩ | exact ⟨rfl, rfl, by rw [List.length_map]; omega⟩) ?_ | refine Br.t ?_ | refine Br.f ?_)
  refine Br.mk (fun b1 => ?_) (fun b1 => ?_)
  · replace h := bif_t b1 h
    repeat (first | refine Ob.mk (by first | rfl | omega | assumption | exact ⟨rfl, rfl, (List.length_map _).symm⟩ | exact ⟨rfl, rfl, by rw [List.length_map]; omega⟩) ?_ | refine Br.t ?_ | refine Br.f ?_)
    refine Br.mk (fun b2 => ?_) (fun b2 => ?_)
    · replace h := bif_t b2 h
      repeat (first | refine Ob.mk (by first | rfl | omega | assumption | exact ⟨rfl, rfl, (List.length_map _).symm⟩ | exact ⟨rfl, rfl, by rw [List.length_map]; omega⟩) ?_ | refine Br.t ?_ | refine Br.f ?_)
      refine WP_ret ?_
      obtain rfl := Option.some.inj h
      repeat (first | refine Ob.mk (by first | rfl | omega | assumption | exact ⟨rfl, rfl, (List.length_map _).symm⟩ | exact ⟨rfl, rfl, by rw [List.length_map]; omega⟩) ?_ | refine Br.t ?_ | refine Br.f ?_)
      exact ⟨DLe.refl _, trivial⟩
    · replace h := bif_f b2 h
      repeat (first | refine Ob.mk (by first | rfl | omega | assumption | exact ⟨rfl, rfl, (List.length_map _).symm⟩ | exact ⟨rfl, rfl, by rw [List.length_map]; omega⟩) ?_ | refine Br.t ?_ | refine Br.f ?_)
      refine Br.mk (fun b3 => ?_) (fun b3 => ?_)
      · replace h := bif_t b3 h
        repeat (first | refine Ob.mk (by first | rfl | omega | assumption | exact ⟨rfl, rfl, (List.length_map _).symm⟩ | exact ⟨rfl, rfl, by rw [List.length_map]; omega⟩) ?_ | refine Br.t ?_ | refine Br.f ?_)
        refine Br.mk (fun b4 => ?_) (fun b4 => ?_)
        · replace h := bif_t b4 h
          repeat (first | refine Ob.mk (by first | rfl | omega | assumption | exact ⟨rfl, rfl, (List.length_map _).symm⟩ | exact ⟨rfl, rfl, by rw [List.length_map]; omega⟩) ?_ | refine Br.t ?_ | refine Br.f ?_)
          refine WP_ret ?_
          obtain rfl := Option.some.inj h
          repeat (first | refine Ob.mk (by first | rfl | omega | assumption | exact ⟨rfl, rfl, (List.length_map _).symm⟩ | exact ⟨rfl, rfl, by rw [List.length_map]; omega⟩) ?_ | refine Br.t ?_ | refine Br.f ?_)
          exact ⟨DLe.refl _, trivial⟩
        · replace h := bif_f b4 h
          repeat (first | refine Ob.mk (by first | rfl | omega | assumption | exact ⟨rfl, rfl, (List.length_map _).symm⟩ | exact ⟨rfl, rfl, by rw [List.length_map]; omega⟩) ?_ | refine Br.t ?_ | refine Br.f ?_)
          refine Br.mk (fun b5 => ?_) (fun b5 => ?_)
          · replace h := bif_t b5 h
            repeat (first | refine Ob.mk (by first | rfl | omega | assumption | exact ⟨rfl, rfl, (List.length_map _).symm⟩ | exact ⟨rfl, rfl, by rw [List.length_map]; omega⟩) ?_ | refine Br.t ?_ | refine Br.f ?_)
            refine Br.mk (fun b6 => ?_) (fun b6 => ?_)
            · replace h := bif_t b6 h
              repeat (first | refine Ob.mk (by first | rfl | omega | assumption | exact ⟨rfl, rfl, (List.length_map _).symm⟩ | exact ⟨rfl, rfl, by rw [List.length_map]; omega⟩) ?_ | refine Br.t ?_ | refine Br.f ?_)
              refine WP_ret ?_
              obtain rfl := Option.some.inj h
              repeat (first | refine Ob.mk (by first | rfl | omega | assumption | exact ⟨rfl, rfl, (List.length_map _).symm⟩ | exact ⟨rfl, rfl, by rw [List.length_map]; omega⟩) ?_ | refine Br.t ?_ | refine Br.f ?_)
              exact ⟨DLe.refl _, trivial⟩
            · replace h := bif_f b6 h
              repeat (first | refine Ob.mk (by first | rfl | omega | assumption | exact ⟨rfl, rfl, (List.length_map _).symm⟩ | exact ⟨rfl, rfl, by rw [List.length_map]; omega⟩) ?_ | refine Br.t ?_ | refine Br.f ?_)
              refine Br.mk (fun b7 => ?_) (fun b7 => ?_)
              · replace h := bif_t b7 h
                repeat (first | refine Ob.mk (by first | rfl | omega | assumption | exact ⟨rfl, rfl, (List.length_map _).symm⟩ | exact ⟨rfl, rfl, by rw [List.length_map]; omega⟩) ?_ | refine Br.t ?_ | refine Br.f ?_)
                refine WP_ret ?_
                obtain rfl := Option.some.inj h
                repeat (first | refine Ob.mk (by first | rfl | omega | assumption | exact ⟨rfl, rfl, (List.length_map _).symm⟩ | exact ⟨rfl, rfl, by rw [List.length_map]; omega⟩) ?_ | refine Br.t ?_ | refine Br.f ?_)
                exact ⟨DLe.refl _, trivial⟩
              · replace h := bif_f b7 h
                repeat (first | refine Ob.mk (by first | rfl | omega | assumption | exact ⟨rfl, rfl, (List.length_map _).symm⟩ | exact ⟨rfl, rfl, by rw [List.length_map]; omega⟩) ?_ | refine Br.t ?_ | refine Br.f ?_)
                refine Br.mk (fun b8 => ?_) (fun b8 => ?_)
                · replace h := bif_t b8 h
                  repeat (first | refine Ob.mk (by first | rfl | omega | assumption | exact ⟨rfl, rfl, (List.length_map _).symm⟩ | exact ⟨rfl, rfl, by rw [List.length_map]; omega⟩) ?_ | refine Br.t ?_ | refine Br.f ?_)
                  refine WP_ret ?_
                  obtain rfl := Option.some.inj h
                  repeat (first | refine Ob.mk (by first | rfl | omega | assumption | exact ⟨rfl, rfl, (List.length_map _).symm⟩ | exact ⟨rfl, rfl, by rw [List.length_map]; omega⟩) ?_ | refine Br.t ?_ | refine Br.f ?_)
                  exact ⟨DLe.refl _, trivial⟩
                · replace h := bif_f b8 h
                  repeat (first | refine Ob.mk (by first | rfl | omega | assumption | exact ⟨rfl, rfl, (List.length_map _).symm⟩ | exact ⟨rfl, rfl, by rw [List.length_map]; omega⟩) ?_ | refine Br.t ?_ | refine Br.f ?_)
                  refine WP_ret ?_
                  obtain rfl := Option.some.inj h
                  repeat (first | refine Ob.mk (by first | rfl | omega | assumption | exact ⟨rfl, rfl, (List.length_map _).symm⟩ | exact ⟨rfl, rfl, by rw [List.length_map]; omega⟩) ?_ | refine Br.t ?_ | refine Br.f ?_)
                  exact ⟨DLe.refl _, trivial⟩
          · replace h := bif_f b5 h
            repeat (first | refine Ob.mk (by first | rfl | omega | assumption | exact ⟨rfl, rfl, (List.length_map _).symm⟩ | exact ⟨rfl, rfl, by rw [List.length_map]; omega⟩) ?_ | refine Br.t ?_ | refine Br.f ?_)
            refine Br.mk (fun b9 => ?_) (fun b9 => ?_)
            · replace h := bif_t b9 h
              repeat (first | refine Ob.mk (by first | rfl | omega | assumption | exact ⟨rfl, rfl, (List.length_map _).symm⟩ | exact ⟨rfl, rfl, by rw [List.length_map]; omega⟩) ?_ | refine Br.t ?_ | refine Br.f ?_)
              refine WP_ret ?_
              obtain rfl := Option.some.inj h
              repeat (first | refine Ob.mk (by first | rfl | omega | assumption | exact ⟨rfl, rfl, (List.length_map _).symm⟩ | exact ⟨rfl, rfl, by rw [List.length_map]; omega⟩) ?_ | refine Br.t ?_ | refine Br.f ?_)
              exact ⟨DLe.refl _, trivial⟩
            · replace h := bif_f b9 h
              repeat (first | refine Ob.mk (by first | rfl | omega | assumption | exact ⟨rfl, rfl, (List.length_map _).symm⟩ | exact ⟨rfl, rfl, by rw [List.length_map]; omega⟩) ?_ | refine Br.t ?_ | refine Br.f ?_)
              refine Br.mk (fun b10 => ?_) (fun b10 => ?_)
              · replace h := bif_t b10 h
                repeat (first | refine Ob.mk (by first | rfl | omega | assumption | exact ⟨rfl, rfl, (List.length_map _).symm⟩ | exact ⟨rfl, rfl, by rw [List.length_map]; omega⟩) ?_ | refine Br.t ?_ | refine Br.f ?_)
                refine WP_ret ?_
                obtain rfl := Option.some.inj h
                repeat (first | refine Ob.mk (by first | rfl | omega | assumption | exact ⟨rfl, rfl, (List.length_map _).symm⟩ | exact ⟨rfl, rfl, by rw [List.length_map]; omega⟩) ?_ | refine Br.t ?_ | refine Br.f ?_)
                exact ⟨DLe.refl _, trivial⟩
              · replace h := bif_f b10 h
                repeat (first | refine Ob.mk (by first | rfl | omega | assumption | exact ⟨rfl, rfl, (List.length_map _).symm⟩ | exact ⟨rfl, rfl, by rw [List.length_map]; omega⟩) ?_ | refine Br.t ?_ | refine Br.f ?_)
                refine WP_ret ?_
                obtain rfl := Option.some.inj h
                repeat (first | refine Ob.mk (by first | rfl | omega | assumption | exact ⟨rfl, rfl, (List.length_map _).symm⟩ | exact ⟨rfl, rfl, by rw [List.length_map]; omega⟩) ?_ | refine Br.t ?_ | refine Br.f ?_)
                exact ⟨DLe.refl _, trivial⟩
      · replace h := bif_f b3 h
        repeat (first | refine Ob.mk (by first | rfl | omega | assumption | exact ⟨rfl, rfl, (List.length_map _).symm⟩ | exact ⟨rfl, rfl, by rw [List.length_map]; omega⟩) ?_ | refine Br.t ?_ | refine Br.f ?_)
        refine Br.mk (fun b11 => ?_) (fun b11 => ?_)
        · replace h := bif_t b11 h
          repeat (first | refine Ob.mk (by first | rfl | omega | assumption | exact ⟨rfl, rfl, (List.length_map _).symm⟩ | exact ⟨rfl, rfl, by rw [List.length_map]; omega⟩) ?_ | refine Br.t ?_ | refine Br.f ?_)
          refine Br.mk (fun b12 => ?_) (fun b12 => ?_)
          · replace h := bif_t b12 h
            repeat (first | refine Ob.mk (by first | rfl | omega | assumption | exact ⟨rfl, rfl, (List.length_map _).symm⟩ | exact ⟨rfl, rfl, by rw [List.length_map]; omega⟩) ?_ | refine Br.t ?_ | refine Br.f ?_)
            refine WP_ret ?_
            obtain rfl := Option.some.inj h
            repeat (first | refine Ob.mk (by first | rfl | omega | assumption | exact ⟨rfl, rfl, (List.length_map _).symm⟩ | exact ⟨rfl, rfl, by rw [List.length_map]; omega⟩) ?_ | refine Br.t ?_ | refine Br.f ?_)
            exact ⟨DLe.refl _, trivial⟩
          · replace h := bif_f b12 h
            repeat (first | refine Ob.mk (by first | rfl | omega | assumption | exact ⟨rfl, rfl, (List.length_map _).symm⟩ | exact ⟨rfl, rfl, by rw [List.length_map]; omega⟩) ?_ | refine Br.t ?_ | refine Br.f ?_)
            refine Br.mk (fun b13 => ?_) (fun b13 => ?_)
            · replace h := bif_t b13 h
              repeat (first | refine Ob.mk (by first | rfl | omega | assumption | exact ⟨rfl, rfl, (List.length_map _).symm⟩ | exact ⟨rfl, rfl, by rw [List.length_map]; omega⟩) ?_ | refine Br.t ?_ | refine Br.f ?_)
              refine WP_ret ?_
              obtain rfl := Option.some.inj h
              repeat (first | refine Ob.mk (by first | rfl | omega | assumption | exact ⟨rfl, rfl, (List.length_map _).symm⟩ | exact ⟨rfl, rfl, by rw [List.length_map]; omega⟩) ?_ | refine Br.t ?_ | refine Br.f ?_)
              exact ⟨DLe.refl _, trivial⟩
            · replace h := bif_f b13 h
              repeat (first | refine Ob.mk (by first | rfl | omega | assumption | exact ⟨rfl, rfl, (List.length_map _).symm⟩ | exact ⟨rfl, rfl, by rw [List.length_map]; omega⟩) ?_ | refine Br.t ?_ | refine Br.f ?_)
              refine Br.mk (fun b14 => ?_) (fun b14 => ?_)
              · replace h := bif_t b14 h
                repeat (first | refine Ob.mk (by first | rfl | omega | assumption | exact ⟨rfl, rfl, (List.length_map _).symm⟩ | exact ⟨rfl, rfl, by rw [List.length_map]; omega⟩) ?_ | refine Br.t ?_ | refine Br.f ?_)
                refine WP_ret ?_
                obtain rfl := Option.some.inj h
                repeat (first | refine Ob.mk (by first | rfl | omega | assumption | exact ⟨rfl, rfl, (List.length_map _).symm⟩ | exact ⟨rfl, rfl, by rw [List.length_map]; omega⟩) ?_ | refine Br.t ?_ | refine Br.f ?_)
                exact ⟨DLe.refl _, trivial⟩
              · replace h := bif_f b14 h
                repeat (first | refine Ob.mk (by first | rfl | omega | assumption | exact ⟨rfl, rfl, (List.length_map _).symm⟩ | exact ⟨rfl, rfl, by rw [List.length_map]; omega⟩) ?_ | refine Br.t ?_ | refine Br.f ?_)
                refine WP_ret ?_
                obtain rfl := Option.some.inj h
                repeat (first | refine Ob.mk (by first | rfl | omega | assumption | exact ⟨rfl, rfl, (List.length_map _).symm⟩ | exact ⟨rfl, rfl, by rw [List.length_map]; omega⟩) ?_ | refine Br.t ?_ | refine Br.f ?_)
                exact ⟨DLe.refl _, trivial⟩
        · replace h := bif_f b11 h
          repeat (first | refine Ob.mk (by first | rfl | omega | assumption | exact ⟨rfl, rfl, (List.length_map _).symm⟩ | exact ⟨rfl, rfl, by rw [List.length_map]; omega⟩) ?_ | refine Br.t ?_ | refine Br.f ?_)
          refine Br.mk (fun b15 => ?_) (fun b15 => ?_)
          · replace h := bif_t b15 h
            repeat (first | refine Ob.mk (by first | rfl | omega | assumption | exact ⟨rfl, rfl, (List.length_map _).symm⟩ | exact ⟨rfl, rfl, by rw [List.length_map]; omega⟩) ?_ | refine Br.t ?_ | refine Br.f ?_)
            refine WP_ret ?_
            obtain rfl := Option.some.inj h
            repeat (first | refine Ob.mk (by first | rfl | omega | assumption | exact ⟨rfl, rfl, (List.length_map _).symm⟩ | exact ⟨rfl, rfl, by rw [List.length_map]; omega⟩) ?_ | refine Br.t ?_ | refine Br.f ?_)
            exact ⟨DLe.refl _, trivial⟩
          · replace h := bif_f b15 h
            repeat (first | refine Ob.mk (by first | rfl | omega | assumption | exact ⟨rfl, rfl, (List.length_map _).symm⟩ | exact ⟨rfl, rfl, by rw [List.length_map]; omega⟩) ?_ | refine Br.t ?_ | refine Br.f ?_)
            refine Br.mk (fun b16 => ?_) (fun b16 => ?_)
            · replace h := bif_t b16 h
              repeat (first | refine Ob.mk (by first | rfl | omega | assumption | exact ⟨rfl, rfl, (List.length_map _).symm⟩ | exact ⟨rfl, rfl, by rw [List.length_map]; omega⟩) ?_ | refine Br.t ?_ | refine Br.f ?_)
              refine WP_ret ?_
              obtain rfl := Option.some.inj h
              repeat (first | refine Ob.mk (by first | rfl | omega | assumption | exact ⟨rfl, rfl, (List.length_map _).symm⟩ | exact ⟨rfl, rfl, by rw [List.length_map]; omega⟩) ?_ | refine Br.t ?_ | refine Br.f ?_)
              exact ⟨DLe.refl _, trivial⟩
            · replace h := bif_f b16 h
              repeat (first | refine Ob.mk (by first | rfl | omega | assumption | exact ⟨rfl, rfl, (List.length_map _).symm⟩ | exact ⟨rfl, rfl, by rw [List.length_map]; omega⟩) ?_ | refine Br.t ?_ | refine Br.f ?_)
              refine WP_ret ?_
              obtain rfl := Option.some.inj h
              repeat (first | refine Ob.mk (by first | rfl | omega | assumption | exact ⟨rfl, rfl, (List.length_map _).symm⟩ | exact ⟨rfl, rfl, by rw [List.length_map]; omega⟩) ?_ | refine Br.t ?_ | refine Br.f ?_)
              exact ⟨DLe.refl _, trivial⟩
  · replace h := bif_f b1 h
    repeat (first | refine Ob.mk (by first | rfl | omega | assumption | exact ⟨rfl, rfl, (List.length_map _).symm⟩ | exact ⟨rfl, rfl, by rw [List.length_map]; omega⟩) ?_ | refine Br.t ?_ | refine Br.f ?_)
    refine Br.mk (fun b17 => ?_) (fun b17 => ?_)
    · replace h := bif_t b17 h
      repeat (first | refine Ob.mk (by first | rfl | omega | assumption | exact ⟨rfl, rfl, (List.length_map _).symm⟩ | exact ⟨rfl, rfl, by rw [List.length_map]; omega⟩) ?_ | refine Br.t ?_ | refine Br.f ?_)
      refine Br.mk (fun b18 => ?_) (fun b18 => ?_)
      · replace h := bif_t b18 h
        repeat (first | refine Ob.mk (by first | rfl | omega | assumption | exact ⟨rfl, rfl, (List.length_map _).symm⟩ | exact ⟨rfl, rfl, by rw [List.length_map]; omega⟩) ?_ | refine Br.t ?_ | refine Br.f ?_)
        refine WP_ret ?_
        obtain rfl := Option.some.inj h
        repeat (first | refine Ob.mk (by first | rfl | omega | assumption | exact ⟨rfl, rfl, (List.length_map _).symm⟩ | exact ⟨rfl, rfl, by rw [List.length_map]; omega⟩) ?_ | refine Br.t ?_ | refine Br.f ?_)
        exact ⟨DLe.refl _, trivial⟩
      · replace h := bif_f b18 h
        repeat (first | refine Ob.mk (by first | rfl | omega | assumption | exact ⟨rfl, rfl, (List.length_map _).symm⟩ | exact ⟨rfl, rfl, by rw [List.length_map]; omega⟩) ?_ | refine Br.t ?_ | refine Br.f ?_)
        refine Br.mk (fun b19 => ?_) (fun b19 => ?_)
        · replace h := bif_t b19 h
          repeat (first | refine Ob.mk (by first | rfl | omega | assumption | exact ⟨rfl, rfl, (List.length_map _).symm⟩ | exact ⟨rfl, rfl, by rw [List.length_map]; omega⟩) ?_ | refine Br.t ?_ | refine Br.f ?_)
          refine Br.mk (fun b20 => ?_) (fun b20 => ?_)
          · replace h := bif_t b20 h
            repeat (first | refine Ob.mk (by first | rfl | omega | assumption | exact ⟨rfl, rfl, (List.length_map _).symm⟩ | exact ⟨rfl, rfl, by rw [List.length_map]; omega⟩) ?_ | refine Br.t ?_ | refine Br.f ?_)
            refine WP_ret ?_
            obtain rfl := Option.some.inj h
            repeat (first | refine Ob.mk (by first | rfl | omega | assumption | exact ⟨rfl, rfl, (List.length_map _).symm⟩ | exact ⟨rfl, rfl, by rw [List.length_map]; omega⟩) ?_ | refine Br.t ?_ | refine Br.f ?_)
            exact ⟨DLe.refl _, trivial⟩
          · replace h := bif_f b20 h
            repeat (first | refine Ob.mk (by first | rfl | omega | assumption | exact ⟨rfl, rfl, (List.length_map _).symm⟩ | exact ⟨rfl, rfl, by rw [List.length_map]; omega⟩) ?_ | refine Br.t ?_ | refine Br.f ?_)
            refine Br.mk (fun b21 => ?_) (fun b21 => ?_)
            · replace h := bif_t b21 h
              repeat (first | refine Ob.mk (by first | rfl | omega | assumption | exact ⟨rfl, rfl, (List.length_map _).symm⟩ | exact ⟨rfl, rfl, by rw [List.length_map]; omega⟩) ?_ | refine Br.t ?_ | refine Br.f ?_)
              refine WP_ret ?_
              obtain rfl := Option.some.inj h
              repeat (first | refine Ob.mk (by first | rfl | omega | assumption | exact ⟨rfl, rfl, (List.length_map _).symm⟩ | exact ⟨rfl, rfl, by rw [List.length_map]; omega⟩) ?_ | refine Br.t ?_ | refine Br.f ?_)
              exact ⟨DLe.refl _, trivial⟩
            · replace h := bif_f b21 h
              repeat (first | refine Ob.mk (by first | rfl | omega | assumption | exact ⟨rfl, rfl, (List.length_map _).symm⟩ | exact ⟨rfl, rfl, by rw [List.length_map]; omega⟩) ?_ | refine Br.t ?_ | refine Br.f ?_)
              refine Br.mk (fun b22 => ?_) (fun b22 => ?_)
              · replace h := bif_t b22 h
                repeat (first | refine Ob.mk (by first | rfl | omega | assumption | exact ⟨rfl, rfl, (List.length_map _).symm⟩ | exact ⟨rfl, rfl, by rw [List.length_map]; omega⟩) ?_ | refine Br.t ?_ | refine Br.f ?_)
                refine WP_ret ?_
                obtain rfl := Option.some.inj h
                repeat (first | refine Ob.mk (by first | rfl | omega | assumption | exact ⟨rfl, rfl, (List.length_map _).symm⟩ | exact ⟨rfl, rfl, by rw [List.length_map]; omega⟩) ?_ | refine Br.t ?_ | refine Br.f ?_)
                exact ⟨DLe.refl _, trivial⟩
              · replace h := bif_f b22 h
                repeat (first | refine Ob.mk (by first | rfl | omega | assumption | exact ⟨rfl, rfl, (List.length_map _).symm⟩ | exact ⟨rfl, rfl, by rw [List.length_map]; omega⟩) ?_ | refine Br.t ?_ | refine Br.f ?_)
                refine WP_ret ?_
                obtain rfl := Option.some.inj h
                repeat (first | refine Ob.mk (by first | rfl | omega | assumption | exact ⟨rfl, rfl, (List.length_map _).symm⟩ | exact ⟨rfl, rfl, by rw [List.length_map]; omega⟩) ?_ | refine Br.t ?_ | refine Br.f ?_)
                exact ⟨DLe.refl _, trivial⟩
        · replace h := bif_f b19 h
          repeat (first | refine Ob.mk (by first | rfl | omega | assumption | exact ⟨rfl, rfl, (List.length_map _).symm⟩ | exact ⟨rfl, rfl, by rw [List.length_map]; omega⟩) ?_ | refine Br.t ?_ | refine Br.f ?_)
          refine Br.mk (fun b23 => ?_) (fun b23 => ?_)
          · replace h := bif_t b23 h
            repeat (first | refine Ob.mk (by first | rfl | omega | assumption | exact ⟨rfl, rfl, (List.length_map _).symm⟩ | exact ⟨rfl, rfl, by rw [List.length_map]; omega⟩) ?_ | refine Br.t ?_ | refine Br.f ?_)
            refine WP_ret ?_
            obtain rfl := Option.some.inj h
            repeat (first | refine Ob.mk (by first | rfl | omega | assumption | exact ⟨rfl, rfl, (List.length_map _).symm⟩ | exact ⟨rfl, rfl, by rw [List.length_map]; omega⟩) ?_ | refine Br.t ?_ | refine Br.f ?_)
            exact ⟨DLe.refl _, trivial⟩
          · replace h := bif_f b23 h
            repeat (first | refine Ob.mk (by first | rfl | omega | assumption | exact ⟨rfl, rfl, (List.length_map _).symm⟩ | exact ⟨rfl, rfl, by rw [List.length_map]; omega⟩) ?_ | refine Br.t ?_ | refine Br.f ?_)
            refine Br.mk (fun b24 => ?_) (fun b24 => ?_)
            · replace h := bif_t b24 h
              repeat (first | refine Ob.mk (by first | rfl | omega | assumption | exact ⟨rfl, rfl, (List.length_map _).symm⟩ | exact ⟨rfl, rfl, by rw [List.length_map]; omega⟩) ?_ | refine Br.t ?_ | refine Br.f ?_)
              refine WP_ret ?_
              obtain rfl := Option.some.inj h
              repeat (first | refine Ob.mk (by first | rfl | omega | assumption | exact ⟨rfl, rfl, (List.length_map _).symm⟩ | exact ⟨rfl, rfl, by rw [List.length_map]; omega⟩) ?_ | refine Br.t ?_ | refine Br.f ?_)
              exact ⟨DLe.refl _, trivial⟩
            · replace h := bif_f b24 h
              repeat (first | refine Ob.mk (by first | rfl | omega | assumption | exact ⟨rfl, rfl, (List.length_map _).symm⟩ | exact ⟨rfl, rfl, by rw [List.length_map]; omega⟩) ?_ | refine Br.t ?_ | refine Br.f ?_)
              refine WP_ret ?_
              obtain rfl := Option.some.inj h
              repeat (first | refine Ob.mk (by first | rfl | omega | assumption | exact ⟨rfl, rfl, (List.length_map _).symm⟩ | exact ⟨rfl, rfl, by rw [List.length_map]; omega⟩) ?_ | refine Br.t ?_ | refine Br.f ?_)
              exact ⟨DLe.refl _, trivial⟩
    · replace h := bif_f b17 h
      repeat (first | refine Ob.mk (by first | rfl | omega | assumption | exact ⟨rfl, rfl, (List.length_map _).symm⟩ | exact ⟨rfl, rfl, by rw [List.length_map]; omega⟩) ?_ | refine Br.t ?_ | refine Br.f ?_)
      refine Br.mk (fun b25 => ?_) (fun b25 => ?_)
      · replace h := bif_t b25 h
        repeat (first | refine Ob.mk (by first | rfl | omega | assumption | exact ⟨rfl, rfl, (List.length_map _).symm⟩ | exact ⟨rfl, rfl, by rw [List.length_map]; omega⟩) ?_ | refine Br.t ?_ | refine Br.f ?_)
        refine Br.mk (fun b26 => ?_) (fun b26 => ?_)
        · replace h := bif_t b26 h
          repeat (first | refine Ob.mk (by first | rfl | omega | assumption | exact ⟨rfl, rfl, (List.length_map _).symm⟩ | exact ⟨rfl, rfl, by rw [List.length_map]; omega⟩) ?_ | refine Br.t ?_ | refine Br.f ?_)
          refine WP_ret ?_
          obtain rfl := Option.some.inj h
          repeat (first | refine Ob.mk (by first | rfl | omega | assumption | exact ⟨rfl, rfl, (List.length_map _).symm⟩ | exact ⟨rfl, rfl, by rw [List.length_map]; omega⟩) ?_ | refine Br.t ?_ | refine Br.f ?_)
          exact ⟨DLe.refl _, trivial⟩
        · replace h := bif_f b26 h
          repeat (first | refine Ob.mk (by first | rfl | omega | assumption | exact ⟨rfl, rfl, (List.length_map _).symm⟩ | exact ⟨rfl, rfl, by rw [List.length_map]; omega⟩) ?_ | refine Br.t ?_ | refine Br.f ?_)
          refine Br.mk (fun b27 => ?_) (fun b27 => ?_)
          · replace h := bif_t b27 h
            repeat (first | refine Ob.mk (by first | rfl | omega | assumption | exact ⟨rfl, rfl, (List.length_map _).symm⟩ | exact ⟨rfl, rfl, by rw [List.length_map]; omega⟩) ?_ | refine Br.t ?_ | refine Br.f ?_)
            refine WP_ret ?_
            obtain rfl := Option.some.inj h
            repeat (first | refine Ob.mk (by first | rfl | omega | assumption | exact ⟨rfl, rfl, (List.length_map _).symm⟩ | exact ⟨rfl, rfl, by rw [List.length_map]; omega⟩) ?_ | refine Br.t ?_ | refine Br.f ?_)
            exact ⟨DLe.refl _, trivial⟩
          · replace h := bif_f b27 h
            repeat (first | refine Ob.mk (by first | rfl | omega | assumption | exact ⟨rfl, rfl, (List.length_map _).symm⟩ | exact ⟨rfl, rfl, by rw [List.length_map]; omega⟩) ?_ | refine Br.t ?_ | refine Br.f ?_)
            refine Br.mk (fun b28 => ?_) (fun b28 => ?_)
            · replace h := bif_t b28 h
              repeat (first | refine Ob.mk (by first | rfl | omega | assumption | exact ⟨rfl, rfl, (List.length_map _).symm⟩ | exact ⟨rfl, rfl, by rw [List.length_map]; omega⟩) ?_ | refine Br.t ?_ | refine Br.f ?_)
              refine WP_ret ?_
              obtain rfl := Option.some.inj h
              repeat (first | refine Ob.mk (by first | rfl | omega | assumption | exact ⟨rfl, rfl, (List.length_map _).symm⟩ | exact ⟨rfl, rfl, by rw [List.length_map]; omega⟩) ?_ | refine Br.t ?_ | refine Br.f ?_)
              exact ⟨DLe.refl _, trivial⟩
            · replace h := bif_f b28 h
              repeat (first | refine Ob.mk (by first | rfl | omega | assumption | exact ⟨rfl, rfl, (List.length_map _).symm⟩ | exact ⟨rfl, rfl, by rw [List.length_map]; omega⟩) ?_ | refine Br.t ?_ | refine Br.f ?_)
              refine WP_ret ?_
              obtain rfl := Option.some.inj h
              repeat (first | refine Ob.mk (by first | rfl | omega | assumption | exact ⟨rfl, rfl, (List.length_map _).symm⟩ | exact ⟨rfl, rfl, by rw [List.length_map]; omega⟩) ?_ | refine Br.t ?_ | refine Br.f ?_)
              exact ⟨DLe.refl _, trivial⟩
      · replace h := bif_f b25 h
        repeat (first | refine Ob.mk (by first | rfl | omega | assumption | exact ⟨rfl, rfl, (List.length_map _).symm⟩ | exact ⟨rfl, rfl, by rw [List.length_map]; omega⟩) ?_ | refine Br.t ?_ | refine Br.f ?_)
        refine Br.mk (fun b29 => ?_) (fun b29 => ?_)
        · replace h := bif_t b29 h
          repeat (first | refine Ob.mk (by first | rfl | omega | assumption | exact ⟨rfl, rfl, (List.length_map _).symm⟩ | exact ⟨rfl, rfl, by rw [List.length_map]; omega⟩) ?_ | refine Br.t ?_ | refine Br.f ?_)
          refine WP_ret ?_
          obtain rfl := Option.some.inj h
          repeat (first | refine Ob.mk (by first | rfl | omega | assumption | exact ⟨rfl, rfl, (List.length_map _).symm⟩ | exact ⟨rfl, rfl, by rw [List.length_map]; omega⟩) ?_ | refine Br.t ?_ | refine Br.f ?_)
          exact ⟨DLe.refl _, trivial⟩
        · replace h := bif_f b29 h
          repeat (first | refine Ob.mk (by first | rfl | omega | assumption | exact ⟨rfl, rfl, (List.length_map _).symm⟩ | exact ⟨rfl, rfl, by rw [List.length_map]; omega⟩) ?_ | refine Br.t ?_ | refine Br.f ?_)
          refine Br.mk (fun b30 => ?_) (fun b30 => ?_)
          · replace h := bif_t b30 h
            repeat (first | refine Ob.mk (by first | rfl | omega | assumption | exact ⟨rfl, rfl, (List.length_map _).symm⟩ | exact ⟨rfl, rfl, by rw [List.length_map]; omega⟩) ?_ | refine Br.t ?_ | refine Br.f ?_)
            refine WP_ret ?_
            obtain rfl := Option.some.inj h
            repeat (first | refine Ob.mk (by first | rfl | omega | assumption | exact ⟨rfl, rfl, (List.length_map _).symm⟩ | exact ⟨rfl, rfl, by rw [List.length_map]; omega⟩) ?_ | refine Br.t ?_ | refine Br.f ?_)
            exact ⟨DLe.refl _, trivial⟩
          · replace h := bif_f b30 h
            repeat (first | refine Ob.mk (by first | rfl | omega | assumption | exact ⟨rfl, rfl, (List.length_map _).symm⟩ | exact ⟨rfl, rfl, by rw [List.length_map]; omega⟩) ?_ | refine Br.t ?_ | refine Br.f ?_)
            refine WP_ret ?_
            obtain rfl := Option.some.inj h
            repeat (first | refine Ob.mk (by first | rfl | omega | assumption | exact ⟨rfl, rfl, (List.length_map _).symm⟩ | exact ⟨rfl, rfl, by rw [List.length_map]; omega⟩) ?_ | refine Br.t ?_ | refine Br.f ?_)
            exact ⟨DLe.refl _, trivial⟩

/-! ### newel/coord.Id -/
def g_coord_Id.l24b (n : Nat) (rec24 : Str → Option (Bool)) (x25 : Str) : Option (Bool) :=
  chk (0 ≤ (0 : Int) ∧ 0 < (x25.size : Int)) <|
  (g_coord_letter n (byteAt x25 0)).bind fun y30 =>
  bif (!y30) then (
    some false
  ) else (
    chk (0 ≤ (1 : Int) ∧ 1 ≤ (x25.size : Int)) <|
    bif (!((x25.extract 1 x25.size).toList == emp.toList)) then (
      rec24 (x25.extract 1 x25.size)
    ) else (
      some true
    )
  )
def g_coord_Id.l24 (n : Nat) : Nat → Str → Option (Bool)
  | 0, _ => none
  | m + 1, x25 => g_coord_Id.l24b n (g_coord_Id.l24 n m) x25
def g_coord_Id (n : Nat) (a0 : Str) : Option (Bool) :=
  bif (a0.toList == emp.toList) then (
    some false
  ) else (
    bif (decide ((a0.size : Int) > 500)) then (
      some false
    ) else (
      g_coord_Id.l24 n n a0
    )
  )
theorem g_coord_Id.ok (n : Nat) (a0 : Str) (r : Bool) (h : g_coord_Id n a0 = some r) : Impl Tryd.prog 68 [.one (dstr a0)] [.one (dbool r)] := by
  refine impl_wp tabOk Tryd.func68 rfl rfl (by kernel_rfl) ?_
  unfold g_coord_Id at h
  refine WP_seq ?_
  refine vcc_sound _ _ _ tabOk (by exact rfl) ?_
  repeat (first | refine Ob.mk (by first | rfl | omega | assumption | exact ⟨rfl, rfl, (List.length_map _).symm⟩ | exact ⟨rfl, rfl, by rw [List.length_map]; omega⟩) ?_ | refine Br.t ?_ | refine Br.f ?_)
  refine WP_scope_cut (α := {x : Nat × Str // g_coord_Id.l24 n x.1 x.2 = some r}) 0 (fun x => ofL [(0, .str x.1.2)]) (fun x => []) (fun x => x.1.1) (by rfl) ?_ (fun again => ?_)
  rotate_left
  · refine WP_seq ?_
    refine WP_seq ?_
    refine vcc_sound _ _ _ tabOk (by exact rfl) ?_
    repeat (first | refine Ob.mk (by first | rfl | omega | assumption | exact ⟨rfl, rfl, (List.length_map _).symm⟩ | exact ⟨rfl, rfl, by rw [List.length_map]; omega⟩) ?_ | refine Br.t ?_ | refine Br.f ?_)
    refine Br.mk (fun b36 => ?_) (fun b36 => ?_)
    · replace h := bif_t b36 h
      repeat (first | refine Ob.mk (by first | rfl | omega | assumption | exact ⟨rfl, rfl, (List.length_map _).symm⟩ | exact ⟨rfl, rfl, by rw [List.length_map]; omega⟩) ?_ | refine Br.t ?_ | refine Br.f ?_)
      refine vcc_sound _ _ _ tabOk (by exact rfl) ?_
      repeat (first | refine Ob.mk (by first | rfl | omega | assumption | exact ⟨rfl, rfl, (List.length_map _).symm⟩ | exact ⟨rfl, rfl, by rw [List.length_map]; omega⟩) ?_ | refine Br.t ?_ | refine Br.f ?_)
      refine WP_seq ?_
      refine vcc_sound _ _ _ tabOk (by exact rfl) ?_
      repeat (first | refine Ob.mk (by first | rfl | omega | assumption | exact ⟨rfl, rfl, (List.length_map _).symm⟩ | exact ⟨rfl, rfl, by rw [List.length_map]; omega⟩) ?_ | refine Br.t ?_ | refine Br.f ?_)
      refine WP_ret ?_
      obtain rfl := Option.some.inj h
      repeat (first | refine Ob.mk (by first | rfl | omega | assumption | exact ⟨rfl, rfl, (List.length_map _).symm⟩ | exact ⟨rfl, rfl, by rw [List.length_map]; omega⟩) ?_ | refine Br.t ?_ | refine Br.f ?_)
      exact ⟨DLe.refl _, trivial⟩
    · replace h := bif_f b36 h
      repeat (first | refine Ob.mk (by first | rfl | omega | assumption | exact ⟨rfl, rfl, (List.length_map _).symm⟩ | exact ⟨rfl, rfl, by rw [List.length_map]; omega⟩) ?_ | refine Br.t ?_ | refine Br.f ?_)
      refine vcc_sound _ _ _ tabOk (by exact rfl) ?_
      repeat (first | refine Ob.mk (by first | rfl | omega | assumption | exact ⟨rfl, rfl, (List.length_map _).symm⟩ | exact ⟨rfl, rfl, by rw [List.length_map]; omega⟩) ?_ | refine Br.t ?_ | refine Br.f ?_)
      refine Br.mk (fun b37 => ?_) (fun b37 => ?_)
      · replace h := bif_t b37 h
        refine WP_seq ?_
        refine vcc_sound _ _ _ tabOk (by exact rfl) ?_
        repeat (first | refine Ob.mk (by first | rfl | omega | assumption | exact ⟨rfl, rfl, (List.length_map _).symm⟩ | exact ⟨rfl, rfl, by rw [List.length_map]; omega⟩) ?_ | refine Br.t ?_ | refine Br.f ?_)
        refine WP_ret ?_
        obtain rfl := Option.some.inj h
        repeat (first | refine Ob.mk (by first | rfl | omega | assumption | exact ⟨rfl, rfl, (List.length_map _).symm⟩ | exact ⟨rfl, rfl, by rw [List.length_map]; omega⟩) ?_ | refine Br.t ?_ | refine Br.f ?_)
        exact ⟨DLe.refl _, trivial⟩
      · replace h := bif_f b37 h
        refine WP_skip ?_
        repeat (first | refine Ob.mk (by first | rfl | omega | assumption | exact ⟨rfl, rfl, (List.length_map _).symm⟩ | exact ⟨rfl, rfl, by rw [List.length_map]; omega⟩) ?_ | refine Br.t ?_ | refine Br.f ?_)
        exact again ⟨(n, a0), h⟩ _ _ (Sub.ofL _ _ (Nat.zero_le _) ⟨rfl, rfl, trivial⟩ rfl rfl)
  rintro ⟨⟨m24, x25⟩, h⟩
  cases m24 with
  | zero => exact nomatch (show (none : Option (Bool)) = some r from h)
  | succ m24 =>
    replace h : g_coord_Id.l24b n (g_coord_Id.l24 n m24) x25 = some r := h
    unfold g_coord_Id.l24b at h
    try dsimp only
    refine WP_seq ?_
    refine WP_seq ?_
    refine vcc_sound _ _ _ tabOk (by exact rfl) ?_
    obtain ⟨c29, h⟩ := chk_some h
    obtain ⟨y30, hy30, h⟩ := bind_some h
    repeat (first | refine Ob.mk (by first | rfl | omega | assumption | exact ⟨rfl, rfl, (List.length_map _).symm⟩ | exact ⟨rfl, rfl, by rw [List.length_map]; omega⟩) ?_ | refine Br.t ?_ | refine Br.f ?_)
    refine CallD.mk _ _ (g_coord_letter.ok n (byteAt x25 0) y30 hy30) (by exact ⟨DLe.refl _, trivial⟩) ?_
    repeat (first | refine Ob.mk (by first | rfl | omega | assumption | exact ⟨rfl, rfl, (List.length_map _).symm⟩ | exact ⟨rfl, rfl, by rw [List.length_map]; omega⟩) ?_ | refine Br.t ?_ | refine Br.f ?_)
    refine vcc_sound _ _ _ tabOk (by exact rfl) ?_
    repeat (first | refine Ob.mk (by first | rfl | omega | assumption | exact ⟨rfl, rfl, (List.length_map _).symm⟩ | exact ⟨rfl, rfl, by rw [List.length_map]; omega⟩) ?_ | refine Br.t ?_ | refine Br.f ?_)
    refine Br.mk (fun b31 => ?_) (fun b31 => ?_)
    · replace h := bif_t b31 h
      refine WP_seq ?_
      refine vcc_sound _ _ _ tabOk (by exact rfl) ?_
      repeat (first | refine Ob.mk (by first | rfl | omega | assumption | exact ⟨rfl, rfl, (List.length_map _).symm⟩ | exact ⟨rfl, rfl, by rw [List.length_map]; omega⟩) ?_ | refine Br.t ?_ | refine Br.f ?_)
      refine WP_ret ?_
      obtain rfl := Option.some.inj h
      repeat (first | refine Ob.mk (by first | rfl | omega | assumption | exact ⟨rfl, rfl, (List.length_map _).symm⟩ | exact ⟨rfl, rfl, by rw [List.length_map]; omega⟩) ?_ | refine Br.t ?_ | refine Br.f ?_)
      exact ⟨DLe.refl _, trivial⟩
    · replace h := bif_f b31 h
      refine WP_skip ?_
      refine WP_seq ?_
      refine vcc_sound _ _ _ tabOk (by exact rfl) ?_
      obtain ⟨c32, h⟩ := chk_some h
      repeat (first | refine Ob.mk (by first | rfl | omega | assumption | exact ⟨rfl, rfl, (List.length_map _).symm⟩ | exact ⟨rfl, rfl, by rw [List.length_map]; omega⟩) ?_ | refine Br.t ?_ | refine Br.f ?_)
      refine WP_seq ?_
      refine WP_seq ?_
      refine vcc_sound _ _ _ tabOk (by exact rfl) ?_
      repeat (first | refine Ob.mk (by first | rfl | omega | assumption | exact ⟨rfl, rfl, (List.length_map _).symm⟩ | exact ⟨rfl, rfl, by rw [List.length_map]; omega⟩) ?_ | refine Br.t ?_ | refine Br.f ?_)
      refine vcc_sound _ _ _ tabOk (by exact rfl) ?_
      repeat (first | refine Ob.mk (by first | rfl | omega | assumption | exact ⟨rfl, rfl, (List.length_map _).symm⟩ | exact ⟨rfl, rfl, by rw [List.length_map]; omega⟩) ?_ | refine Br.t ?_ | refine Br.f ?_)
      refine Br.mk (fun b33 => ?_) (fun b33 => ?_)
      · replace h := bif_t b33 h
        refine WP_goto ?_
        repeat (first | refine Ob.mk (by first | rfl | omega | assumption | exact ⟨rfl, rfl, (List.length_map _).symm⟩ | exact ⟨rfl, rfl, by rw [List.length_map]; omega⟩) ?_ | refine Br.t ?_ | refine Br.f ?_)
        exact ⟨rfl, ⟨⟨(m24, (x25.extract 1 x25.size)), h⟩, Nat.lt_succ_self _, Sub.ofL _ _ (Nat.zero_le _) ⟨rfl, rfl, trivial⟩ rfl rfl⟩⟩
      · replace h := bif_f b33 h
        refine WP_skip ?_
        refine WP_seq ?_
        refine vcc_sound _ _ _ tabOk (by exact rfl) ?_
        repeat (first | refine Ob.mk (by first | rfl | omega | assumption | exact ⟨rfl, rfl, (List.length_map _).symm⟩ | exact ⟨rfl, rfl, by rw [List.length_map]; omega⟩) ?_ | refine Br.t ?_ | refine Br.f ?_)
        refine WP_ret ?_
        obtain rfl := Option.some.inj h
        repeat (first | refine Ob.mk (by first | rfl | omega | assumption | exact ⟨rfl, rfl, (List.length_map _).symm⟩ | exact ⟨rfl, rfl, by rw [List.length_map]; omega⟩) ?_ | refine Br.t ?_ | refine Br.f ?_)
        exact ⟨DLe.refl _, trivial⟩

/-! ### newel/newelhelp.Plain[newel/api.Coord]$1 -/
def g_newelhelp_Plain_api_Coord_1 (n : Nat) (a0 : Coord) (a1 : Coord) : Option (Bool) :=
  some (eqStrs [a0.group, a0.name, a0.version] [a1.group, a1.name, a1.version])
theorem g_newelhelp_Plain_api_Coord_1.ok (n : Nat) (a0 : Coord) (a1 : Coord) (r : Bool) (h : g_newelhelp_Plain_api_Coord_1 n a0 a1 = some r) : Impl Tryd.prog 52 [.agg (encCoord a0), .agg (encCoord a1)] [.one (dbool r)] := by
  refine impl_wp tabOk Tryd.func52 rfl rfl (by kernel_rfl) ?_
  unfold g_newelhelp_Plain_api_Coord_1 at h
  refine WP_seq ?_
  refine vcc_sound _ _ _ tabOk (by exact rfl) ?_
  repeat (first | refine Ob.mk (by first | rfl | omega | assumption | exact ⟨rfl, rfl, (List.length_map _).symm⟩ | exact ⟨rfl, rfl, by rw [List.length_map]; omega⟩) ?_ | refine Br.t ?_ | refine Br.f ?_)
  refine WP_seq ?_
  refine vcc_sound _ _ _ tabOk (by exact rfl) ?_
  repeat (first | refine Ob.mk (by first | rfl | omega | assumption | exact ⟨rfl, rfl, (List.length_map _).symm⟩ | exact ⟨rfl, rfl, by rw [List.length_map]; omega⟩) ?_ | refine Br.t ?_ | refine Br.f ?_)
  refine WP_ret ?_
  obtain rfl := Option.some.inj h
  repeat (first | refine Ob.mk (by first | rfl | omega | assumption | exact ⟨rfl, rfl, (List.length_map _).symm⟩ | exact ⟨rfl, rfl, by rw [List.length_map]; omega⟩) ?_ | refine Br.t ?_ | refine Br.f ?_)
  exact ⟨DLe.refl _, trivial⟩

/-! ### newel/newelhelp.Same[newel/api.Coord] -/
def g_newelhelp_Same_api_Coord__newelhelp_Plain_api_Coord_1.k20 (n : Nat) : Option (Bool) :=
  some true
def g_newelhelp_Same_api_Coord__newelhelp_Plain_api_Coord_1.l20b (n : Nat) (a0 : (List Coord)) (a1 : (List Coord)) (rec20 : Int → Option (Bool)) (x21 : Int) : Option (Bool) :=
  bif (decide (x21 < (a0.length : Int))) then (
    chk (0 ≤ x21 ∧ x21 < (a0.length : Int)) <|
    chk (0 ≤ x21 ∧ x21 < (a1.length : Int)) <|
    (g_newelhelp_Plain_api_Coord_1 n (a0.getD x21.toNat zCoord) (a1.getD x21.toNat zCoord)).bind fun y26 =>
    bif (!y26) then (
      some false
    ) else (
      chk (in64 (x21 + 1)) <|
      rec20 (x21 + 1)
    )
  ) else (
    g_newelhelp_Same_api_Coord__newelhelp_Plain_api_Coord_1.k20 n
  )
def g_newelhelp_Same_api_Coord__newelhelp_Plain_api_Coord_1.l20 (n : Nat) (a0 : (List Coord)) (a1 : (List Coord)) : Nat → Int → Option (Bool)
  | 0, _ => none
  | m + 1, x21 => g_newelhelp_Same_api_Coord__newelhelp_Plain_api_Coord_1.l20b n a0 a1 (g_newelhelp_Same_api_Coord__newelhelp_Plain_api_Coord_1.l20 n a0 a1 m) x21
def g_newelhelp_Same_api_Coord__newelhelp_Plain_api_Coord_1 (n : Nat) (a0 : (List Coord)) (a1 : (List Coord)) : Option (Bool) :=
  bif ((a0.length : Int) != (a1.length : Int)) then (
    some false
  ) else (
    g_newelhelp_Same_api_Coord__newelhelp_Plain_api_Coord_1.l20 n a0 a1 n 0
  )
theorem g_newelhelp_Same_api_Coord__newelhelp_Plain_api_Coord_1.ok (n : Nat) (a0 : (List Coord)) (a1 : (List Coord)) (r : Bool) (h : g_newelhelp_Same_api_Coord__newelhelp_Plain_api_Coord_1 n a0 a1 = some r) : Impl Tryd.prog 51 [.one (.tl Coord 3 encCoord zCoord a0), .one (.tl Coord 3 encCoord zCoord a1), .one (.sc (.func (.func 52) #[] #[]))] [.one (dbool r)] := by
  refine impl_wp tabOk Tryd.func51 rfl rfl (by kernel_rfl) ?_
  unfold g_newelhelp_Same_api_Coord__newelhelp_Plain_api_Coord_1 at h
  refine WP_seq ?_
  refine vcc_sound _ _ _ tabOk (by exact rfl) ?_
  repeat (first | refine Ob.mk (by first | rfl | omega | assumption | exact ⟨rfl, rfl, (List.length_map _).symm⟩ | exact ⟨rfl, rfl, by rw [List.length_map]; omega⟩) ?_ | refine Br.t ?_ | refine Br.f ?_)
  refine WP_seq ?_
  refine WP_seq ?_
  refine vcc_sound _ _ _ tabOk (by exact rfl) ?_
  repeat (first | refine Ob.mk (by first | rfl | omega | assumption | exact ⟨rfl, rfl, (List.length_map _).symm⟩ | exact ⟨rfl, rfl, by rw [List.length_map]; omega⟩) ?_ | refine Br.t ?_ | refine Br.f ?_)
  refine vcc_sound _ _ _ tabOk (by exact rfl) ?_
  repeat (first | refine Ob.mk (by first | rfl | omega | assumption | exact ⟨rfl, rfl, (List.length_map _).symm⟩ | exact ⟨rfl, rfl, by rw [List.length_map]; omega⟩) ?_ | refine Br.t ?_ | refine Br.f ?_)
  refine Br.mk (fun b2 => ?_) (fun b2 => ?_)
  · replace h := bif_t b2 h
    refine WP_seq ?_
    refine vcc_sound _ _ _ tabOk (by exact rfl) ?_
    repeat (first | refine Ob.mk (by first | rfl | omega | assumption | exact ⟨rfl, rfl, (List.length_map _).symm⟩ | exact ⟨rfl, rfl, by rw [List.length_map]; omega⟩) ?_ | refine Br.t ?_ | refine Br.f ?_)
    refine WP_ret ?_
    obtain rfl := Option.some.inj h
    repeat (first | refine Ob.mk (by first | rfl | omega | assumption | exact ⟨rfl, rfl, (List.length_map _).symm⟩ | exact ⟨rfl, rfl, by rw [List.length_map]; omega⟩) ?_ | refine Br.t ?_ | refine Br.f ?_)
    exact ⟨DLe.refl _, trivial⟩
  · replace h := bif_f b2 h
    refine WP_skip ?_
    refine WP_seq ?_
    refine WP_seq ?_
    refine vcc_sound _ _ _ tabOk (by exact rfl) ?_
    repeat (first | refine Ob.mk (by first | rfl | omega | assumption | exact ⟨rfl, rfl, (List.length_map _).symm⟩ | exact ⟨rfl, rfl, by rw [List.length_map]; omega⟩) ?_ | refine Br.t ?_ | refine Br.f ?_)
    refine WP_cutQ (α := {p : Unit // g_newelhelp_Same_api_Coord__newelhelp_Plain_api_Coord_1.k20 n = some r}) (fun p => ofL []) (fun p => []) (WP_block (WP_loop (α := {x : Nat × Int // g_newelhelp_Same_api_Coord__newelhelp_Plain_api_Coord_1.l20 n a0 a1 x.1 x.2 = some r}) (fun x => ofL [(0, .d (.tl Coord 3 encCoord zCoord a0)), (1, .d (.tl Coord 3 encCoord zCoord a1)), (2, fnAV 52), (7, .int x.1.2)]) (fun x => []) (fun x => x.1.1) ⟨(n, 0), h⟩ (Sub.ofL _ _ (Nat.zero_le _) ⟨rfl, rfl, rfl, rfl, rfl, rfl, rfl, rfl, trivial⟩ rfl rfl) ?_)) ?_
    rotate_left
    · rintro ⟨⟨⟩, h⟩ env st hs
      replace h : g_newelhelp_Same_api_Coord__newelhelp_Plain_api_Coord_1.k20 n = some r := h
      unfold g_newelhelp_Same_api_Coord__newelhelp_Plain_api_Coord_1.k20 at h
      refine WP_sub hs ?_
      try dsimp only
      refine WP_seq ?_
      refine vcc_sound _ _ _ tabOk (by exact rfl) ?_
      repeat (first | refine Ob.mk (by first | rfl | omega | assumption | exact ⟨rfl, rfl, (List.length_map _).symm⟩ | exact ⟨rfl, rfl, by rw [List.length_map]; omega⟩) ?_ | refine Br.t ?_ | refine Br.f ?_)
      refine WP_ret ?_
      obtain rfl := Option.some.inj h
      repeat (first | refine Ob.mk (by first | rfl | omega | assumption | exact ⟨rfl, rfl, (List.length_map _).symm⟩ | exact ⟨rfl, rfl, by rw [List.length_map]; omega⟩) ?_ | refine Br.t ?_ | refine Br.f ?_)
      exact ⟨DLe.refl _, trivial⟩
    rintro ⟨⟨m20, x21⟩, h⟩
    cases m20 with
    | zero => exact nomatch (show (none : Option (Bool)) = some r from h)
    | succ m20 =>
      replace h : g_newelhelp_Same_api_Coord__newelhelp_Plain_api_Coord_1.l20b n a0 a1 (g_newelhelp_Same_api_Coord__newelhelp_Plain_api_Coord_1.l20 n a0 a1 m20) x21 = some r := h
      unfold g_newelhelp_Same_api_Coord__newelhelp_Plain_api_Coord_1.l20b at h
      try dsimp only
      refine WP_seq ?_
      refine WP_seq ?_
      refine vcc_sound _ _ _ tabOk (by exact rfl) ?_
      repeat (first | refine Ob.mk (by first | rfl | omega | assumption | exact ⟨rfl, rfl, (List.length_map _).symm⟩ | exact ⟨rfl, rfl, by rw [List.length_map]; omega⟩) ?_ | refine Br.t ?_ | refine Br.f ?_)
      refine vcc_sound _ _ _ tabOk (by exact rfl) ?_
      repeat (first | refine Ob.mk (by first | rfl | omega | assumption | exact ⟨rfl, rfl, (List.length_map _).symm⟩ | exact ⟨rfl, rfl, by rw [List.length_map]; omega⟩) ?_ | refine Br.t ?_ | refine Br.f ?_)
      refine Br.mk (fun b23 => ?_) (fun b23 => ?_)
      · replace h := bif_t b23 h
        refine WP_skip ?_
        refine WP_seq ?_
        refine WP_block ?_
        refine WP_seq ?_
        refine cdraw1 tabOk (by kernel_rfl) ?_
        obtain ⟨c24, h⟩ := chk_some h
        obtain ⟨c25, h⟩ := chk_some h
        obtain ⟨y26, hy26, h⟩ := bind_some h
        repeat (first | refine Ob.mk (by first | rfl | omega | assumption | exact ⟨rfl, rfl, (List.length_map _).symm⟩ | exact ⟨rfl, rfl, by rw [List.length_map]; omega⟩) ?_ | refine Br.t ?_ | refine Br.f ?_)
        refine CallD.mk _ _ (g_newelhelp_Plain_api_Coord_1.ok n (a0.getD x21.toNat zCoord) (a1.getD x21.toNat zCoord) y26 hy26) (by exact ⟨DLe.refl _, DLe.refl _, trivial⟩) ?_
        repeat (first | refine Ob.mk (by first | rfl | omega | assumption | exact ⟨rfl, rfl, (List.length_map _).symm⟩ | exact ⟨rfl, rfl, by rw [List.length_map]; omega⟩) ?_ | refine Br.t ?_ | refine Br.f ?_)
        refine vcc_sound _ _ _ tabOk (by exact rfl) ?_
        repeat (first | refine Ob.mk (by first | rfl | omega | assumption | exact ⟨rfl, rfl, (List.length_map _).symm⟩ | exact ⟨rfl, rfl, by rw [List.length_map]; omega⟩) ?_ | refine Br.t ?_ | refine Br.f ?_)
        refine Br.mk (fun b27 => ?_) (fun b27 => ?_)
        · replace h := bif_t b27 h
          refine WP_seq ?_
          refine vcc_sound _ _ _ tabOk (by exact rfl) ?_
          repeat (first | refine Ob.mk (by first | rfl | omega | assumption | exact ⟨rfl, rfl, (List.length_map _).symm⟩ | exact ⟨rfl, rfl, by rw [List.length_map]; omega⟩) ?_ | refine Br.t ?_ | refine Br.f ?_)
          refine WP_ret ?_
          obtain rfl := Option.some.inj h
          repeat (first | refine Ob.mk (by first | rfl | omega | assumption | exact ⟨rfl, rfl, (List.length_map _).symm⟩ | exact ⟨rfl, rfl, by rw [List.length_map]; omega⟩) ?_ | refine Br.t ?_ | refine Br.f ?_)
          exact ⟨DLe.refl _, trivial⟩
        · replace h := bif_f b27 h
          refine WP_skip ?_
          refine vcc_sound _ _ _ tabOk (by exact rfl) ?_
          obtain ⟨c28, h⟩ := chk_some h
          repeat (first | refine Ob.mk (by first | rfl | omega | assumption | exact ⟨rfl, rfl, (List.length_map _).symm⟩ | exact ⟨rfl, rfl, by rw [List.length_map]; omega⟩) ?_ | refine Br.t ?_ | refine Br.f ?_)
          repeat (first | refine Ob.mk (by first | rfl | omega | assumption | exact ⟨rfl, rfl, (List.length_map _).symm⟩ | exact ⟨rfl, rfl, by rw [List.length_map]; omega⟩) ?_ | refine Br.t ?_ | refine Br.f ?_)
          exact ⟨⟨(m20, (x21 + 1)), h⟩, Nat.lt_succ_self _, Sub.ofL _ _ (Nat.zero_le _) ⟨rfl, rfl, rfl, rfl, rfl, rfl, rfl, rfl, trivial⟩ rfl rfl⟩
      · replace h := bif_f b23 h
        refine WP_exit ?_
        repeat (first | refine Ob.mk (by first | rfl | omega | assumption | exact ⟨rfl, rfl, (List.length_map _).symm⟩ | exact ⟨rfl, rfl, by rw [List.length_map]; omega⟩) ?_ | refine Br.t ?_ | refine Br.f ?_)
        exact ⟨⟨(), h⟩, Sub.ofL _ _ (Nat.zero_le _) trivial rfl rfl⟩

/-! ### newel/newelhelp.Plain[newel/api.Coord] -/
def g_newelhelp_Plain_api_Coord (n : Nat) (a0 : (List Coord)) (a1 : (List Coord)) : Option (Bool) :=
  (g_newelhelp_Same_api_Coord__newelhelp_Plain_api_Coord_1 n a0 a1).bind fun y1 =>
  some y1
theorem g_newelhelp_Plain_api_Coord.ok (n : Nat) (a0 : (List Coord)) (a1 : (List Coord)) (r : Bool) (h : g_newelhelp_Plain_api_Coord n a0 a1 = some r) : Impl Tryd.prog 33 [.one (.tl Coord 3 encCoord zCoord a0), .one (.tl Coord 3 encCoord zCoord a1)] [.one (dbool r)] := by
  refine impl_wp tabOk Tryd.func33 rfl rfl (by kernel_rfl) ?_
  unfold g_newelhelp_Plain_api_Coord at h
  refine WP_seq ?_
  refine vcc_sound _ _ _ tabOk (by exact rfl) ?_
  repeat (first | refine Ob.mk (by first | rfl | omega | assumption | exact ⟨rfl, rfl, (List.length_map _).symm⟩ | exact ⟨rfl, rfl, by rw [List.length_map]; omega⟩) ?_ | refine Br.t ?_ | refine Br.f ?_)
  refine WP_seq ?_
  refine vcc_sound _ _ _ tabOk (by exact rfl) ?_
  obtain ⟨y1, hy1, h⟩ := bind_some h
  repeat (first | refine Ob.mk (by first | rfl | omega | assumption | exact ⟨rfl, rfl, (List.length_map _).symm⟩ | exact ⟨rfl, rfl, by rw [List.length_map]; omega⟩) ?_ | refine Br.t ?_ | refine Br.f ?_)
  refine CallD.mk _ _ (g_newelhelp_Same_api_Coord__newelhelp_Plain_api_Coord_1.ok n a0 a1 y1 hy1) (by exact ⟨DLe.refl _, DLe.refl _, DLe.refl _, trivial⟩) ?_
  repeat (first | refine Ob.mk (by first | rfl | omega | assumption | exact ⟨rfl, rfl, (List.length_map _).symm⟩ | exact ⟨rfl, rfl, by rw [List.length_map]; omega⟩) ?_ | refine Br.t ?_ | refine Br.f ?_)
  refine WP_ret ?_
  obtain rfl := Option.some.inj h
  repeat (first | refine Ob.mk (by first | rfl | omega | assumption | exact ⟨rfl, rfl, (List.length_map _).symm⟩ | exact ⟨rfl, rfl, by rw [List.length_map]; omega⟩) ?_ | refine Br.t ?_ | refine Br.f ?_)
  exact ⟨DLe.refl _, trivial⟩

end Go.Proofs.Nw.K
end
section
/- SK: slices.SortFunc over a row of one's own of structs of scalars, by any total order that a function of the program tells. -/
set_option linter.unusedVariables false
set_option linter.unusedSimpArgs false
namespace Go.Proofs.Nw.K
open Go Go.Proofs Go.Shelf Go.Lib Go.Sort Go.RowKit

section
variable {α : Type} [Inhabited α] {P : Program} {ρ : Ren}

omit [Inhabited α] in
theorem flatK_len (enc : α → List Value) (n : Nat) (hk : ∀ x, (enc x).length = n) (ys : List α) : (ys.flatMap enc).length = ys.length * n := by
  induction ys with
  | nil => simp
  | cons p r ih => rw [List.flatMap_cons, List.length_append, ih, hk, List.length_cons, Nat.add_mul]; omega

omit [Inhabited α] in
theorem flatK_at (enc : α → List Value) (n : Nat) (hk : ∀ x, (enc x).length = n) : ∀ (l : List α) (i j : Nat) (p : α), l[i]? = some p → j < n → (l.flatMap enc)[i * n + j]? = (enc p)[j]?
  | [], i, j, p, h, _ => by simp at h
  | q :: r, 0, j, p, h, hj => by
    simp at h; subst h
    rw [List.flatMap_cons, Nat.zero_mul, Nat.zero_add, List.getElem?_append_left (by rw [hk]; exact hj)]
  | q :: r, i + 1, j, p, h, hj => by
    have := flatK_at enc n hk r i j p (by simpa using h) hj
    rw [List.flatMap_cons, List.getElem?_append_right (by rw [hk, Nat.add_mul]; omega), ← this, hk, Nat.add_mul]
    congr 1
    omega

theorem flatK_get (enc : α → List Value) (n : Nat) (hn0 : 0 < n) (hk : ∀ x, (enc x).length = n) (ys : List α) (t : Nat) (h : t < ys.length * n) : (ys.flatMap enc)[t]? = some ((flatK enc n ys.toArray)[t]!) := by
  rw [get_flatK _ _ _ _ (by simpa using h)]
  have h2 : t / n < ys.length := Nat.div_lt_of_lt_mul (by rw [Nat.mul_comm]; exact h)
  have h3 : t % n < n := Nat.mod_lt _ hn0
  rw [getElem!_pos _ (t / n) (by simpa using h2)]
  have := flatK_at enc n hk ys (t / n) (t % n) _ (List.getElem?_eq_getElem h2) h3
  have e : t / n * n + t % n = t := by rw [Nat.mul_comm]; exact Nat.div_add_mod t n
  rw [e] at this
  rw [this]
  have h4 : t % n < (enc ys[t / n]).length := by rw [hk]; exact h3
  rw [List.getElem?_eq_getElem h4]
  simp [h4]

theorem sortK_eff (L : SlLaysF0.n6 P ρ) (n : Nat) (hn0 : 0 < n) (aE : ∀ w, (isAgg (ρ.t 24)).run P w = .ok true w) (zE : ∀ w, (Go.sizeOf (ρ.t 24)).run P w = .ok n w) (enc : α → List Value) (hk : ∀ x, (enc x).length = n)
    (hsc : ∀ x, ∀ v ∈ enc x, scal v = true) (h1 : ∀ x, ∀ v ∈ enc x, v.oneCell' = true) (cf : α → α → Int) (hO : SWO (ltOf cf)) (hT : ∀ x y, (ltOf cf) x y = false → (ltOf cf) y x = false → x = y) (g : Nat)
    (hcl : callable P g = true) (hcmp : ∀ x y, Impl P g [.agg ((enc x).map D.sc), .agg ((enc y).map D.sc)] [.one (.sc (.int .i64 (cf x y)))])
    (hnone : ∀ (p : Option Addr) (cap : Nat) (fv : Value) (w : World), Calls P (ρ.f 6) #[.slice p 0 cap, fv] w fun e w' => e = .returned (.tuple #[]) ∧ w' = w)
    {st : List AO} {s k e : Nat} {xs : List α} (hst : st[s]? = some (.row k e n (xs.map fun x => (enc x).map D.sc))) (hn : xs.length ≤ 4194304) :
    Eff P (ρ.f 6) [.h s k 0 xs.length, fnAV g] st [] (st.set s (.row k e n ((xs.mergeSort fun x y => !(ltOf cf) y x).map fun x => (enc x).map D.sc))) := by
  intro w0 σ0 σ gh w vs hb hl hvs
  match vs, hl with
  | [v, fv], _ =>
  have r1 := hvs 0 v _ rfl rfl
  have r2 := RepA_sc (hvs 1 fv _ rfl rfl)
  subst r2
  obtain ⟨gv, hg, hR, A, c, hv⟩ := h_val hb hst r1
  have hlen : (xs.map fun x => (enc x).map D.sc).length = xs.length := by simp
  have hvg : v = gv := by
    obtain ⟨h0, ⟨a1, a2, a3⟩ | ⟨b', m, c2, a1, a2, ⟨a3, a4, _⟩ | a3⟩⟩ := hR
    · exact a3
    · omega
    · obtain ⟨A', c', hgv, hc'⟩ := row_val hb hst hg
      rw [a1] at hgv
      injection hgv with e1 e2 e3
      rw [a3, a1, e2, hlen]; simp
  subst hvg
  obtain ⟨vals, hown, hsz, hval, huns, hone⟩ := hb.obj s _ _ hst hg
  rw [hlen] at hown
  generalize hys : (xs.mergeSort fun x y => !(ltOf cf) y x) = ys
  have hps : ys.length = xs.length := by rw [← hys]; exact sort_perm cf xs
  rcases hown.2 with ⟨e1, e2⟩ | ⟨blk, cap, cur, e1, e2, e3, e4, e5, e6, e7⟩
  · have : xs = [] := List.eq_nil_of_length_eq_zero e2
    subst this
    have : ys = [] := List.eq_nil_of_length_eq_zero hps
    subst this
    rw [e1]
    refine (hnone none 0 _ w).mono fun e w' ⟨h3, h4⟩ => ?_
    subst h4
    refine ⟨_, h3, σ, gh, ?_, [], rfl, by simp [RepVs]⟩
    rw [set_self hst]
    exact .refl hb
  · have hvals : vals = xs.flatMap enc := by
      have hl1 : vals.length = xs.length * n := hown.1
      apply List.ext_getElem?
      intro t
      by_cases ht : t < xs.length * n
      · have h2 : t / n < xs.length := Nat.div_lt_of_lt_mul (by rw [Nat.mul_comm]; exact ht)
        have h3 : t % n < n := Nat.mod_lt _ hn0
        have he : t / n * n + t % n = t := by rw [Nat.mul_comm]; exact Nat.div_add_mod t n
        have h4 : t % n < (enc xs[t / n]).length := by rw [hk]; exact h3
        have hx : (xs.map fun x => (enc x).map D.sc)[t / n]? = some ((enc xs[t / n]).map D.sc) := by simp [h2]
        have hy : ((enc xs[t / n]).map D.sc)[t % n]? = some (.sc (enc xs[t / n])[t % n]) := by simp [h4]
        obtain ⟨u, h5, h6⟩ := hval (t / n) (t % n) _ _ hx hy
        have h6 := RepA_sc (gh := gh) (st := st) (show RepA σ gh st u (.d (.sc ((enc xs[t / n])[t % n]))) from h6)
        rw [he] at h5
        have h7 := flatK_at enc n hk xs (t / n) (t % n) _ (List.getElem?_eq_getElem h2) h3
        rw [he] at h7
        rw [h5, h6, h7, List.getElem?_eq_getElem h4]
      · rw [List.getElem?_eq_none (by omega), List.getElem?_eq_none (by rw [flatK_len enc n hk]; omega)]
    subst hvals
    subst e1
    have hblk : blk < w.heap.size := (Array.getElem?_eq_some_iff.1 e3).1
    have hH : HoldsK enc n w blk 0 xs.toArray := by
      intro j hj
      have hj' : j < xs.length * n := by simpa using hj
      have h3 := hown.cellAt j hj'
      have h4 := hown.frozenAt j
      rw [Nat.zero_add]
      refine ⟨?_, h4⟩
      rw [h3, flatK_get enc n hn0 hk xs j hj']; rfl
    have eg : ∀ args w, (callFunc g args).run P w = .ok (.enter g args) w := fun args w => callFunc_run hcl args w
    have hcl1 : CmpLays P g #[] enc n cf blk 0 xs.toArray.size w := fun m os dk _ x y => by
      have rep : ∀ (σ : Sig) x, RepV σ (.agg (enc x).toArray) (.agg ((enc x).map D.sc)) := fun σ x => ⟨_, rfl, by simp, fun i v d hv hd => by
        simp only [List.getElem?_map, Option.map_eq_some_iff] at hd
        obtain ⟨u, hu, rfl⟩ := hd
        have hv : (enc x)[i]? = some v := hv
        rw [hv] at hu
        cases hu
        exact Rep.sc (hsc x v (List.mem_of_getElem? hv))⟩
      have := impl_calls (vs := [.agg (enc x).toArray, .agg (enc y).toArray]) (hcmp x y) ⟨rfl, fun i v d hv hd => by
        match i, hv, hd with
        | 0, hv, hd => simp at hv hd; subst hv hd; exact rep _ x
        | 1, hv, hd => simp at hv hd; subst hv hd; exact rep _ y
        | i + 2, hv, hd => simp at hv⟩ (sortWorldK enc n w blk 0 m dk os)
      simpa using this
    have hcon := AnyQ.slices_SortFunc_total L n aE zE enc hk h1 cf hO g #[] blk 0 cap xs.toArray w eg hcl1 hH hblk (by simp; omega) hT
    refine hcon.mono fun e' w' ⟨h3, m, os, h4⟩ => ?_
    have hd : (xs.toArray.toList.mergeSort fun x y => !(ltOf cf) y x) = ys := by rw [← hys]
    rw [hd] at h4
    generalize hF : flatK enc n ys.toArray = F at h4
    have hFs : F.size = xs.length * n := by rw [← hF]; simp [hps]
    have hw' : w' = grow (mapBlock (Sort.ahead w m) blk (putCells id 0 F)) os := by rw [h4, ← hF]; rfl
    have hmb : ∀ j, (mapBlock (Sort.ahead w m) blk (putCells id 0 F)).heap[j]? = if blk = j then (w.heap[j]?).map (onCells (putCells id 0 F)) else w.heap[j]? := fun j => by
      simp only [mapBlock, Sort.ahead, Array.getElem?_modify]
    have hms : (mapBlock (Sort.ahead w m) blk (putCells id 0 F)).heap.size = w.heap.size := by simp [mapBlock, Sort.ahead]
    have hgrown : w.grownBy w' (some blk) := by
      rw [hw']
      refine ⟨rfl, rfl, rfl, ?_, fun j hj hne => ?_⟩
      · rw [size_grow, hms]; omega
      · rw [heap_grow_old _ _ (by rw [hms]; exact hj), hmb, if_neg (fun h => hne (by rw [h]))]
    have hdr : w.drawn ≤ w'.drawn := by
      rw [hw']
      show w.drawn ≤ w.drawn + m
      omega
    have hcell : w'.heap[blk]? = some (.cells (putCells id 0 F cur) e (0, 0)) := by
      rw [hw', heap_grow_old _ _ (by rw [hms]; exact hblk), hmb, if_pos rfl, e3]; rfl
    have hpc : (putCells id 0 F cur).size = cur.size := by simp [putCells]
    have hFl : (putCells id 0 F cur).toList.take (xs.length * n) = ys.flatMap enc := by
      have h5 : xs.length * n ≤ cur.size := by rw [e6]; exact Nat.mul_le_mul_right _ e4
      apply List.ext_getElem?
      intro t
      by_cases ht : t < xs.length * n
      · rw [List.getElem?_take_of_lt ht, flatK_get enc n hn0 hk ys t (by rw [hps]; exact ht), hF]
        have h7 : t < cur.size := by omega
        simp only [putCells, Array.getElem?_toList, Array.getElem?_mapIdx, Array.getElem?_eq_getElem h7, Option.map_some]
        rw [if_pos ⟨by omega, by omega⟩]; rfl
      · rw [List.getElem?_eq_none (by simp; omega), List.getElem?_eq_none (by rw [flatK_len enc n hk, hps]; omega)]
    have keep : ∀ v a, RepA σ gh st v a → RepA σ gh (st.set s (.row k e n (ys.map fun x => (enc x).map D.sc))) v a := fun v a h' => h'.set hst _ (fun k' e' sz' xs' heq => by cases heq; exact ⟨e, xs.map fun x => (enc x).map D.sc, rfl, by simp [hps]⟩)
    have := hb.turn (w' := w') hst hg (by simp) (by simpa [blkOf] using hgrown) (.slice (some ⟨blk, 0, none⟩) xs.length cap) (.row k e n (ys.map fun x => (enc x).map D.sc)) (fun b hb' => .inl hb')
      ⟨ys.flatMap enc, ⟨by rw [flatK_len enc n hk]; simp, .inr ⟨blk, cap, _, by simp [hps], e2, hcell, by simpa [hps] using e4, e5, by rw [hpc]; exact e6, by rw [List.length_map, hps]; exact hFl⟩⟩,
        fun i x hx => by
          simp only [List.getElem?_map, Option.map_eq_some_iff] at hx
          obtain ⟨p, _, rfl⟩ := hx
          rw [List.length_map, hk],
        fun i j x d hx hd => by
          simp only [List.getElem?_map, Option.map_eq_some_iff] at hx
          obtain ⟨p, hp, rfl⟩ := hx
          simp only [List.getElem?_map, Option.map_eq_some_iff] at hd
          obtain ⟨u, hu, rfl⟩ := hd
          have hj : j < n := by have := (List.getElem?_eq_some_iff.1 hu).1; rwa [hk] at this
          exact ⟨u, by rw [flatK_at enc n hk ys i j p hp hj]; exact hu, Rep.sc (hsc p u (List.mem_of_getElem? hu))⟩,
        huns, fun v hv => by
          obtain ⟨p, _, hp⟩ := List.mem_flatMap.1 hv
          exact h1 p v hp⟩
      (by rw [set_self hg]; exact keep) hdr
    rw [set_self hg] at this
    exact ⟨_, h3, σ, gh, this, [], rfl, by simp [RepVs]⟩
end
end Go.Proofs.Nw.K
end
section
/- QI0: coords in their order. -/
open Go Go.RowKit Go.Proofs Go.Shelf Go.Lib Go.Sort
set_option linter.unusedVariables false
set_option linter.unusedSimpArgs false
namespace Go.Proofs.Nw.K

def coordC (a b : Coord) : Int := if strCmp a.group b.group ≠ 0 then strCmp a.group b.group else if strCmp a.name b.name ≠ 0 then strCmp a.name b.name else wholeC a.version b.version
theorem totCo : TotPre coordC := (totS.pull Coord.group).lex ((totS.pull Coord.name).lex (totC.pull Coord.version))
theorem coordC_zero {a b : Coord} (h : coordC a b = 0) : a = b := by
  unfold coordC at h
  split at h
  · contradiction
  · rename_i h1
    split at h
    · contradiction
    · rename_i h2
      have e1 := strCmp_zero (Decidable.not_not.1 h1)
      have e2 := strCmp_zero (Decidable.not_not.1 h2)
      have e3 := wholeC_zero h
      cases a; cases b
      simp only at e1 e2 e3
      subst e1 e2 e3
      rfl
theorem g_Or4_eq (n : Nat) (x y z u : Int) : g_cmp_Or_int (n + 5) [x, y, z, u] = some (if x ≠ 0 then x else if y ≠ 0 then y else if z ≠ 0 then z else u) := by
  have e : ∀ z : Int, z ≠ 0 → (z != 0) = true := fun z h => by simpa using h
  by_cases h1 : x = 0
  · by_cases h2 : y = 0
    · by_cases h3 : z = 0
      · by_cases h4 : u = 0
        · subst h1 h2 h3 h4; simp [g_cmp_Or_int, g_cmp_Or_int.l14, g_cmp_Or_int.l14b, g_cmp_Or_int.k14, chk, in64]
        · subst h1 h2 h3; simp [g_cmp_Or_int, g_cmp_Or_int.l14, g_cmp_Or_int.l14b, g_cmp_Or_int.k14, chk, in64, e u h4]
      · subst h1 h2; simp [g_cmp_Or_int, g_cmp_Or_int.l14, g_cmp_Or_int.l14b, g_cmp_Or_int.k14, chk, in64, h3, e z h3]
    · subst h1; simp [g_cmp_Or_int, g_cmp_Or_int.l14, g_cmp_Or_int.l14b, g_cmp_Or_int.k14, chk, in64, h2, e y h2]
  · simp [g_cmp_Or_int, g_cmp_Or_int.l14, g_cmp_Or_int.l14b, g_cmp_Or_int.k14, chk, in64, h1, e x h1]
theorem g_coord_Compare_eq (n : Nat) (a b : Coord) (ha : a.version.size ≤ 4194303) (hb : b.version.size ≤ 4194303) : g_coord_Compare (n + 5) a b = some (coordC a b) := by
  unfold g_coord_Compare
  rw [g_cmpS_eq, g_cmpS_eq, g_cmpS_eq, g_order_Compare_eq _ _ _ ha hb]
  simp only [Option.bind_some]
  rw [g_Or4_eq]
  rfl

abbrev SmC : Type := {c : Coord // c.version.size ≤ 4194303}
def coordS (x y : SmC) : Int := coordC x.1 y.1
theorem totCoS : TotPre coordS := totCo.pull Subtype.val
instance : Inhabited SmC := ⟨⟨zCoord, Nat.zero_le _⟩⟩
theorem attach_coord : ∀ (xs : List Coord) (h : ∀ x ∈ xs, x.version.size ≤ 4194303), ∃ ys : List SmC, ys.map Subtype.val = xs
  | [], _ => ⟨[], rfl⟩
  | x :: r, h => by
    obtain ⟨ys, hy⟩ := attach_coord r (fun x hx => h x (by simp [hx]))
    exact ⟨⟨x, h x (by simp)⟩ :: ys, by simp [hy]⟩
def sortCo (xs : List Coord) : List Coord := xs.mergeSort fun x y => !(ltOf coordC) y x
theorem sortCo_length (xs : List Coord) : (sortCo xs).length = xs.length := by simp [sortCo]
def encCV (c : Coord) : List Value := [.string c.group, .string c.name, .string c.version]

theorem sortCoord_eff (xs : List Coord) (c1 : xs.length ≤ 4194304) (c2 : ∀ x ∈ xs, x.version.size ≤ 4194303) {st : List AO} {s k e : Nat} (hst : st[s]? = some (.row k e 3 (xs.map encCoord))) :
    Eff Tryd.prog 48 [.h s k 0 xs.length, fnAV 49] st [] (st.set s (.row k e 3 ((sortCo xs).map encCoord))) := by
  obtain ⟨ys, rfl⟩ := attach_coord xs c2
  have L := Tryd.sortCoord
  have := sortK_eff (P := Tryd.prog) (α := SmC) L 3 (by decide) Tryd.isAgg47 Tryd.sizeOf47 (fun x => encCV x.1) (fun x => rfl) (fun x v hv => by simp [encCV] at hv; rcases hv with rfl | rfl | rfl <;> rfl) (fun x v hv => by simp [encCV] at hv; rcases hv with rfl | rfl | rfl <;> rfl) coordS totCoS.swo
    (fun x y h1 h2 => by
      simp only [ltOf, decide_eq_false_iff_not] at h1 h2
      have a1 := totCoS.anti x y
      exact Subtype.ext (coordC_zero (a := x.1) (b := y.1) (by show coordS x y = 0; omega)))
    49 (by kernel_rfl) (fun x y => g_coord_Compare.ok 5 x.1 y.1 _ (g_coord_Compare_eq 0 x.1 y.1 x.2 y.2))
    (fun p cap fv w => AnyF.slices_SortFunc_none { L with } p cap fv w) (st := st) (s := s) (k := k) (e := e) (xs := ys) (by rw [hst]; simp [encCoord, encCV]) (by simpa using c1)
  have e1 : sortCo (ys.map Subtype.val) = (ys.mergeSort fun x y => !(ltOf coordS) y x).map Subtype.val := by
    unfold sortCo
    rw [List.map_mergeSort]
    intro a ha b hb
    rfl
  rw [e1]
  simp only [List.length_map, List.map_map] at this ⊢
  exact this
end Go.Proofs.Nw.K
end
section
/- K30: lists with known room behind them. -/
open Go Go.RowKit
set_option linter.unusedVariables false
set_option linter.unusedSimpArgs false
namespace Go.Proofs.Nw.K

theorem DLe.spl {sz n : Nat} {xs : List (List D)} : DLe (.one (.sp sz xs n)) (.one (.list sz (xs.take n))) := fun σ v h => by
  have h : Rep σ v (.sp sz xs n) := h
  show Rep σ v (.list sz (xs.take n))
  cases h with
  | @sp b off _ c _ _ val hn h0 hc hm hsz hcell hval =>
    have hl : (xs.take n).length = n := by rw [List.length_take]; omega
    by_cases hz : n = 0
    · subst hz
      exact .nil hm
    · refine .list val hl.symm (by omega) (by omega) hm (fun i x hx => hsz i x (by rw [List.getElem?_take] at hx; split at hx; exact hx; cases hx)) (fun i j hi hj => hcell i j (by omega) hj) (fun i j x d hx hd => hval i j x d (by rw [List.getElem?_take] at hx; split at hx; exact hx; cases hx) hd)
theorem DLe.sptl {α : Type} {sz n : Nat} {enc : α → List D} (z : α) {xs : List (List D)} {l : List α} (e : xs.take n = l.map enc) : DLe (.one (.sp sz xs n)) (.one (.tl α sz enc z l)) :=
  DLe.spl.trans (DLe.tl z e)

/-- a row of one's own, of which a handle shows the first ones, is given out: the others are the room behind -/
theorem Sub.shutSp {N : Fm} {env : Env} {st : List AO} (t : Nat) (s k n e sz : Nat) (xs : List (List D)) (h : env t = .h s k 0 n) (hst : st[s]? = some (.row k e sz xs)) (hn : n ≤ xs.length) (h0 : 0 < xs.length) : Sub N env st (upd env t (.d (.sp sz xs n))) (st.set s .gone) :=
  Sub.slot t _ fun w0 σ0 σ gh w u hb hu => by
    rw [h] at hu
    obtain ⟨g, hg, hR, A, c, hv⟩ := h_val hb hst hu
    obtain ⟨σ', hf, hrep⟩ := seal_row hb hst hg
    refine ⟨σ', gh, hf, ?_⟩
    show Rep σ' u (.sp sz xs n)
    cases hrep with
    | nil _ => simp at h0
    | @list b off m c' _ _ val hm h0' hc hmx hsz hcell hval =>
      subst hm
      obtain ⟨h0'', ⟨a1, a2, a3⟩ | ⟨b2, m2, c2, a1, a2, ⟨a3, a4, _⟩ | a3⟩⟩ := hR
      · rw [a3, a2]
        exact .sp val (by omega) h0 (by omega) hmx hsz hcell hval
      · omega
      · cases a1
        rw [a3, Nat.zero_mul]
        exact .sp val hn h0 (by omega) hmx hsz hcell hval

section
variable {P : Program} {E : Operand → AV} {st : List AO}

theorem op_slice_sp (t e : TypeId) (sz : Nat) (x : Operand) (hi : Operand) (h n : Nat) (xs : List (List D)) (ht : elT P t = some (e, sz)) (hx : E x = .d (.sp sz xs n))
    (hh : E hi = .int h) (h2 : h ≤ xs.length) : OpS P (.slice t x none (some hi) none) E st (.list sz (xs.take h)) st :=
  op_pure fun o ho w0 σ0 σ gh ρ w hb hρ => by
    have h3 := hρ x (by simp [Op.operands])
    rw [hx] at h3
    have h4 := hρ hi (by simp [Op.operands])
    rw [hh] at h4
    have h4 := RepA_sc h4
    obtain ⟨hu, i, hi', hs⟩ := elT_spec ht
    have h3 : Rep σ (ρ x) (.sp sz xs n) := h3
    have hle : ∀ v, Rep σ v (.sp sz xs h) → Rep σ v (.list sz (xs.take h)) := fun v hv => DLe.spl σ v hv
    generalize hrx : ρ x = v at h3
    cases h3 with
    | @sp b off _ c _ _ val hn h0 hc hm hsz hcell hval =>
      have hrun := run_sliceAt (P := P) (ρ := ρ) (w := w) hu sz (by simp [sizeOf, typeInfo, hi', hs]) (some ⟨b, off, none⟩) n c none (some hi) 0 h rfl ⟨h, h4, by omega, by simp⟩ (Nat.zero_le _) (by omega)
      refine ⟨.slice (some ⟨b, off, none⟩) h c, ?_, hle _ (.sp val h2 h0 hc hm hsz hcell hval)⟩
      simp only [execOp, ho, hrx]
      simp only [Option.map] at hrun ⊢
      simp [hrun, Addr.add]

theorem op_cap_sp (t : TypeId) (x : Operand) (sz n e : Nat) (xs : List (List D)) (hu : P.underlying t = some (.slice e)) (hx : E x = .d (.sp sz xs n)) {V : AV → List AO → Prop} (hV : ∀ c : Nat, xs.length ≤ c → c ≤ maxLen → V (.int c) st) :
    OpN P (.call { callee := .builtin .cap, args := #[x], argTypes := #[t] }) E st V := by
  intro o ho w0 σ0 σ gh ρ w hb hρ
  have h3 := hρ x (by simp [Op.operands, Call.operands])
  rw [hx] at h3
  have h3 : Rep σ (ρ x) (.sp sz xs n) := h3
  generalize hrx : ρ x = v at h3
  cases h3 with
  | @sp b off _ c _ _ val hn h0 hc hm hsz hcell hval =>
    refine ⟨.int c, st, hV c hc hm, ?_⟩
    have hrun : (execOp ρ o).run P w = .ok (.value (.int .i64 c)) w := by
      simp [execOp, ho, resolve, invoke, builtin, hrx, Builtin.cap_, run_underlying hu, goInt, Result.andThen]
    rw [hrun]
    exact ⟨σ, gh, .refl hb, RepA_of_sc rfl⟩

/-- beyond what a handle shows, within its row -/
theorem op_slice_hm (t e : TypeId) (sz : Nat) (x hi : Operand) (h s k n e' : Nat) (xs : List (List D)) (ht : elT P t = some (e, sz)) (hx : E x = .h s k 0 n) (hst : st[s]? = some (.row k e' sz xs))
    (hh : E hi = .int h) (h0 : 0 < xs.length) (h2 : h ≤ xs.length) : OpS P (.slice t x none (some hi) none) E st (.h s k 0 h) st :=
  op_pure fun o ho w0 σ0 σ gh ρ w hb hρ => by
    have h3 := hρ x (by simp [Op.operands])
    rw [hx] at h3
    have h4 := hρ hi (by simp [Op.operands])
    rw [hh] at h4
    have h4 := RepA_sc h4
    obtain ⟨hu, i, hi', hs⟩ := elT_spec ht
    obtain ⟨g, hg, hR, A, c, hv⟩ := h_val hb hst h3
    obtain ⟨vals, hown, _⟩ := hb.obj s _ _ hst hg
    rcases hown.2 with ⟨e1, e2⟩ | ⟨b, cap, cur, e1, e2, e3, e4, e5⟩
    · omega
    have hval : ρ x = .slice (some ⟨b, 0, none⟩) n cap := by
      obtain ⟨h0, ⟨a1, a2, a3⟩ | ⟨b2, m2, c2, a1, a2, ⟨a3, a4, _⟩ | a3⟩⟩ := hR
      · rw [a3, e1, a2]
      · omega
      · rw [e1] at a1; cases a1; rw [a3, Nat.zero_mul, Nat.sub_zero]
    have hrun := run_sliceAt (P := P) (ρ := ρ) (w := w) hu sz (by simp [sizeOf, typeInfo, hi', hs]) (some ⟨b, 0, none⟩) n cap none (some hi) 0 h rfl ⟨h, h4, by omega, by simp⟩ (Nat.zero_le _) (by omega)
    refine ⟨.slice (some ⟨b, 0, none⟩) h cap, ?_, g, _, hg, hst, fun k' e2 sz2 xs2 heq => ?_⟩
    · simp only [execOp, ho, hval]
      simp only [Option.map] at hrun ⊢
      simp [hrun, Addr.add]
    · cases heq
      exact ⟨Nat.le_refl _, fun _ => ⟨by omega, .inr ⟨b, xs.length, cap, e1, by omega, .inr (by rw [Nat.zero_mul, Nat.sub_zero])⟩⟩⟩

/-- a new row, nothing of which is shown yet -/
theorem op_makeSlice0 (t e : TypeId) (sz by_ : Nat) (l c : Operand) (N : Nat) (zs : List D) (ht : appT P t = some (e, sz, by_)) (hz : zeroD P e = some zs) (hl : E l = .int 0) (hc : E c = .int N) (hN : 0 < N) (hM : N ≤ maxLen) (hb1 : by_ * N ≤ 281474976710656) :
    OpS P (.makeSlice t l c) E st (.h st.length 0 0 0) (st ++ [.row 0 e sz (List.replicate N zs)]) := by
  intro o ho w0 σ0 σ gh ρ w hb hρ
  have h1 := RepA_sc (hl ▸ hρ l (by simp [Op.operands]) : RepA σ gh st (ρ l) (.int 0))
  have h2 := RepA_sc (hc ▸ hρ c (by simp [Op.operands]) : RepA σ gh st (ρ c) (.int N))
  obtain ⟨hu, i, z, hi, hiz, hsz, hby, hzs, hpos⟩ := appT_spec ht
  obtain ⟨i2, z2, hi2, hiz2, hrz⟩ := zeroD_spec hz
  rw [hi] at hi2; cases hi2
  rw [hiz] at hiz2; cases hiz2
  have hm : (N : Int) ≤ 9223372036854775807 := by simp only [maxLen] at hM; omega
  have hb2 : (i.bytes : Int) * (N : Int) ≤ 281474976710656 := by
    rw [hby]
    have : ((by_ * N : Nat) : Int) ≤ 281474976710656 := by omega
    rwa [Int.natCast_mul] at this
  have hr := run_make (P := P) w t e i z hu hi hiz .i64 .i64 0 N (Int.le_refl _) (by omega) hb2 hm
  simp only [Int.toNat_zero, Int.toNat_natCast, hsz] at hr
  have hrun : (execOp ρ o).run P w = .ok (.value (.slice (some ⟨w.heap.size, 0, none⟩) 0 N)) (w.alloc (.cells (madeCells z.cells (N * sz)) e)) := by
    simp [execOp, ho, h1, h2, hr, Result.andThen]
  rw [hrun]
  have hms : (madeCells z.cells (N * sz)).size = N * sz := size_madeCells _ _
  have hget : ∀ i j, i < N → j < sz → (madeCells z.cells (N * sz)).toList[i * sz + j]? = z.cells[j]? := fun i j hi hj => by
    have hlt : i * sz + j < N * sz := by
      calc i * sz + j < i * sz + sz := by omega
        _ = (i + 1) * sz := by rw [Nat.add_mul]; omega
        _ ≤ N * sz := Nat.mul_le_mul_right _ (by omega)
    have hmod : (i * sz + j) % sz = j := by rw [Nat.mul_comm, Nat.mul_add_mod, Nat.mod_eq_of_lt hj]
    have hj2 : j < z.cells.size := by omega
    simp only [madeCells, Array.getElem?_toList]
    simp [hlt, hzs, hmod, hj2]
    rw [getElem!_pos z.cells j hj2, Array.getElem?_eq_getElem hj2]
  have hzl : zs.length = sz := by have := (hrz σ).1; simp at this; omega
  have hrep : ∀ {i : Nat} {x : List D}, (List.replicate N zs)[i]? = some x → i < N ∧ zs = x := fun {i x} hx => by
    rw [List.getElem?_replicate] at hx
    split at hx
    · cases hx; exact ⟨by assumption, rfl⟩
    · cases hx
  have hf := hb.push (w' := w.alloc (.cells (madeCells z.cells (N * sz)) e)) (World.grownBy_alloc w _ none) (.slice (some ⟨w.heap.size, 0, none⟩) N N) (.row 0 e sz (List.replicate N zs)) (fun b h => by
      simp only [blkOf, Option.some.injEq] at h; subst h; simp)
    ⟨(madeCells z.cells (N * sz)).toList, by
      rw [List.length_replicate]
      exact ⟨by simpa using hms, .inr ⟨w.heap.size, N, _, rfl, hb.below.size, heap_alloc_new w _, Nat.le_refl _, hM, hms, List.take_of_length_le (by simp [hms])⟩⟩, fun i x hx => by
      obtain ⟨_, rfl⟩ := hrep hx
      exact hzl, fun i j x d hx hd => by
      obtain ⟨hiN, rfl⟩ := hrep hx
      have hj : j < sz := by rw [← hzl]; exact (List.getElem?_eq_some_iff.1 hd).1
      have hj2 : j < z.cells.size := by omega
      refine ⟨z.cells[j], by rw [hget i j hiN hj]; simp [hj2], (hrz σ).2 j _ d (by simp [hj2]) hd⟩, fun b hb' => by
      simp only [blkOf, Option.some.injEq] at hb'
      subst hb'
      exact hb.sl.fresh (Nat.le_refl _), fun v hv => ?_⟩
  · refine ⟨σ, _, hf, .slice (some ⟨w.heap.size, 0, none⟩) N N, _, by rw [← hb.len]; simp, by simp; rfl, fun k' e' sz' xs' heq => ?_⟩
    cases heq
    refine ⟨Nat.le_refl _, fun _ => ⟨by simp, .inr ⟨w.heap.size, N, N, rfl, by omega, .inr (by rw [Nat.zero_mul, Nat.sub_zero])⟩⟩⟩
  · simp only [madeCells, Array.toList_map, List.mem_map] at hv
    obtain ⟨q, _, rfl⟩ := hv
    have hq : q % z.cells.size < z.cells.size := Nat.mod_lt _ (by omega)
    rw [getElem!_pos z.cells _ hq]
    have hd : (z.cells.toList)[q % z.cells.size]? = some z.cells[q % z.cells.size] := by simp [hq]
    obtain ⟨d, hd2⟩ : ∃ d, zs[q % z.cells.size]? = some d := ⟨zs[q % z.cells.size]'(by omega), by simp⟩
    have := (hrz σ).2 _ _ d hd hd2
    exact this.one
end
end Go.Proofs.Nw.K
end
section
/- K31: append to a handle on the first ones of a row of one's own: in place. -/
open Go Go.RowKit
set_option linter.unusedVariables false
set_option linter.unusedSimpArgs false
namespace Go.Proofs.Nw.K

theorem RepA.bump {σ : Sig} {gh : List Value} {st : List AO} {s k e sz : Nat} {xs xs' : List (List D)} {g g' : Value} (hst : st[s]? = some (.row k e sz xs)) (hgs : gh[s]? = some g)
    (notptr : ∀ b, g ≠ .pointer (some b)) (notmap : ∀ b, g ≠ .map (some b)) : ∀ v a, RepA σ gh st v a → RepA σ (gh.set s g') (st.set s (.row (k + 1) e sz xs')) v a := by
  intro v a ha
  have hslt : s < st.length := (List.getElem?_eq_some_iff.1 hst).1
  have hgl : s < gh.length := (List.getElem?_eq_some_iff.1 hgs).1
  have lookg : ∀ (t : Nat) g1, gh[t]? = some g1 → t ≠ s → (gh.set s g')[t]? = some g1 := fun t g1 h h' => by rw [List.getElem?_set, if_neg (fun e => h' e.symm)]; exact h
  have looks : ∀ (t : Nat) o1, st[t]? = some o1 → t ≠ s → (st.set s (.row (k + 1) e sz xs'))[t]? = some o1 := fun t o1 h h' => by rw [List.getElem?_set, if_neg (fun e => h' e.symm)]; exact h
  cases a with
  | v x => exact ha
  | ptr t off =>
    obtain ⟨b, a1, a2⟩ := ha
    refine ⟨b, lookg _ _ a1 (fun e => ?_), a2⟩
    subst e; rw [hgs] at a1; cases a1; exact notptr _ rfl
  | h t k2 lo2 n2 =>
    obtain ⟨g1, o1, a1, a2, a3⟩ := ha
    by_cases et : t = s
    · subst et
      rw [hst] at a2
      cases a2
      refine ⟨g', _, by simp [hgl], by simp [hslt]; rfl, fun k' e' sz' xs2 heq => ?_⟩
      cases heq
      have := (a3 _ _ _ _ rfl).1
      exact ⟨by omega, fun e => by omega⟩
    · exact ⟨g1, o1, lookg _ _ a1 et, looks _ _ a2 et, a3⟩
  | ep t k2 i2 off2 =>
    obtain ⟨g1, o1, a1, a2, a3⟩ := ha
    by_cases et : t = s
    · subst et
      rw [hst] at a2
      cases a2
      refine ⟨g', _, by simp [hgl], by simp [hslt]; rfl, fun k' e' sz' xs2 heq => ?_⟩
      cases heq
      have := (a3 _ _ _ _ rfl).1
      exact ⟨by omega, fun e => by omega⟩
    · exact ⟨g1, o1, lookg _ _ a1 et, looks _ _ a2 et, a3⟩
  | omap t =>
    obtain ⟨a1, r, a2⟩ := ha
    refine ⟨lookg _ _ a1 (fun e => ?_), r, a2⟩
    subst e; rw [hgs] at a1; cases a1; exact notmap _ a2
  | tup vs => exact ha
  | bs t n2 =>
    obtain ⟨b, c2, a1, a2⟩ := ha
    refine ⟨b, c2, lookg _ _ a1 (fun e => ?_), a2⟩
    subst e; rw [hgs] at a1; cases a1; exact notptr _ rfl
  | clo f caps =>
    obtain ⟨us, a1, a2, a3⟩ := ha
    refine ⟨us, a1, a2, fun i u t hu ht' => ?_⟩
    obtain ⟨b1, b, b2⟩ := a3 i u t hu ht'
    refine ⟨lookg _ _ b1 (fun e => ?_), b, b2⟩
    subst e; rw [hgs] at b1; cases b1; exact notptr _ b2
  | pkg cs =>
    obtain ⟨us, a1, a2, a3⟩ := ha
    refine ⟨us, a1, a2, fun i u c hu hc => (a3 i u c hu hc).map (fun s2 e2 e3 ⟨r, e4⟩ => ?_) ⟨fun _ _ _ h => h, fun _ _ h => h⟩⟩
    refine lookg _ _ e3 (fun e => ?_)
    subst e; rw [hgs] at e3; cases e3; exact notmap _ e4
  | junk => trivial

/-- a source that is a typed list -/
inductive SrcT (st : List AO) : AV → Nat → List (List D) → Prop
  | src {a sz ys} (h : Src st a sz ys) : SrcT st a sz ys
  | tl {α : Type} {sz : Nat} {enc : α → List D} {z : α} {l : List α} {ys : List (List D)} (h : ys = l.map enc) : SrcT st (.d (.tl α sz enc z l)) sz ys
theorem SrcT.to {st : List AO} {σ : Sig} {gh : List Value} {u : Value} {a : AV} {sz : Nat} {ys : List (List D)} (h : SrcT st a sz ys) (hr : RepA σ gh st u a) : ∃ a', Src st a' sz ys ∧ RepA σ gh st u a' := by
  cases h with
  | src h => exact ⟨a, h, hr⟩
  | @tl α _ enc z l _ h =>
    subst h
    have hr : Rep σ u (.tl α sz enc z l) := hr
    cases hr with
    | tl hr => exact ⟨.list sz (l.map enc), .list, hr⟩

section
variable {P : Program} {E : Operand → AV} {st : List AO}
theorem op_append_in (t e : TypeId) (sz by_ : Nat) (x y : Operand) (s k n : Nat) (xs ys : List (List D)) (ht : appT P t = some (e, sz, by_)) (hx : E x = .h s k 0 n) (hst : st[s]? = some (.row k e sz xs)) (hy : SrcT st (E y) sz ys)
    (h0 : 0 < xs.length) (hfit : n + ys.length ≤ xs.length) :
    OpS P (.call { callee := .builtin .append, args := #[x, y], argTypes := #[t, t] }) E st (.h s (k + 1) 0 (n + ys.length)) (st.set s (.row (k + 1) e sz (xs.take n ++ ys ++ xs.drop (n + ys.length)))) := by
  intro o ho w0 σ0 σ gh ρ w hb hρ
  have h1 := hρ x (by simp [Op.operands, Call.operands])
  have h2 := hρ y (by simp [Op.operands, Call.operands])
  rw [hx] at h1
  obtain ⟨hu, i, z, hi, hz, hsz', hby, hzs, hpos⟩ := appT_spec ht
  obtain ⟨g, hgs, hR, A, c, hv⟩ := h_val hb hst h1
  obtain ⟨vals, hown, hsz, hval, huns, hone⟩ := hb.obj s _ _ hst hgs
  have hslt : s < st.length := (List.getElem?_eq_some_iff.1 hst).1
  rcases hown.2 with ⟨e1, e2⟩ | ⟨b, cap, cur, e1, hbb, hheap, hnc, hcm, hcs, htake⟩
  · omega
  have hvx : ρ x = .slice (some ⟨b, 0, none⟩) n cap := by
    obtain ⟨h0, ⟨a1, a2, a3⟩ | ⟨b2, m2, c2, a1, a2, ⟨a3, a4, _⟩ | a3⟩⟩ := hR
    · rw [a3, e1, a2]
    · omega
    · rw [e1] at a1; cases a1; rw [a3, Nat.zero_mul, Nat.sub_zero]
  have hmul : (n + ys.length) * sz ≤ xs.length * sz := Nat.mul_le_mul_right _ hfit
  have hmul2 : n * sz ≤ (n + ys.length) * sz := Nat.mul_le_mul_right _ (by omega)
  have hmul3 : xs.length * sz ≤ cur.size := by rw [hcs]; exact Nat.mul_le_mul_right _ hnc
  have hvl : vals.length = xs.length * sz := hown.1
  have key : ∃ w' news cur', (Builtin.append_ #[t, t] o.type #[ρ x, ρ y]).run P w = .ok (.slice (some ⟨b, 0, none⟩) (n + ys.length) cap) w' ∧ w'.heap[b]? = some (.cells cur' e (0, 0)) ∧ cur'.size = cur.size ∧
      cur'.toList.take (xs.length * sz) = vals.take (n * sz) ++ news ++ vals.drop ((n + ys.length) * sz) ∧ RepRows σ news sz ys ∧ news.length = ys.length * sz ∧ (∀ v ∈ news, v.oneCell' = true) ∧ w.grownBy w' (some b) := by
    obtain ⟨a', hy', h2'⟩ := hy.to h2
    obtain ⟨A', c', hvy, hc⟩ := src_cells hb h2' hy'
    rcases hc with hnil | ⟨ad, news, hA, hl, hnews, hone2, hrows⟩
    · subst hnil
      have hfc : (Builtin.firstCells sz 0 (.slice A' 0 c')).run P w = .ok #[] w := by
        cases A' <;> simp [Builtin.firstCells, loadCells, loadCellsFrom]
      have hn' : n ≤ cap := by simp at hfit; omega
      refine ⟨w, [], cur, ?_, hheap, rfl, ?_, ⟨fun i x hx => by simp at hx, fun i j x d hx => by simp at hx⟩, by simp, by simp, ⟨rfl, rfl, rfl, Nat.le_refl _, fun _ _ _ => rfl⟩⟩
      · rw [hvx, hvy]
        simp [Builtin.append_, run_underlying hu, sizeOf, typeInfo, hi, hsz', Builtin.lenOf, hn', hfc, storeCells]
      · rw [htake]; simp
    · have hr := run_append_room (P := P) w t o.type e i hu hi b n cap cur hheap ad ys.length c' news (by rw [hsz']; exact hl) hnews hone2 (by omega) (by rw [hsz', hl, ← Nat.add_mul]; omega)
      rw [hsz'] at hr
      refine ⟨_, news, _, by rw [hvx, hvy, hA]; exact hr, setRow_heap w b cur _ e _ hheap, ?_, ?_, hrows, hl, hone2, ⟨rfl, rfl, rfl, by simp, fun k _ hk => setRow_other w b k _ (fun e => hk (by rw [e]))⟩⟩
      · have : n * sz + news.length = (n + ys.length) * sz := by rw [hl, Nat.add_mul]
        simp only [List.size_toArray, List.length_append, List.length_take, List.length_drop, Array.length_toList]
        omega
      · have hnl : n * sz + news.length = (n + ys.length) * sz := by rw [hl, Nat.add_mul]
        have l1 : (cur.toList.take (n * sz)).length = n * sz := by rw [List.length_take, Array.length_toList]; omega
        have l2 : (cur.toList.take (n * sz) ++ news).length = (n + ys.length) * sz := by rw [List.length_append, l1, hnl]
        show ((cur.toList.take (n * sz) ++ news ++ cur.toList.drop (n * sz + news.length)).toArray.toList).take (xs.length * sz) = _
        rw [List.toList_toArray, List.take_append, l2, List.take_of_length_le (by rw [l2]; exact hmul), hnl, ← htake, List.drop_take, List.take_take, Nat.min_eq_left (by omega)]
  obtain ⟨w', news, cur', hr, hheap', hcs', htake', hrows, hnl, hone2, hg⟩ := key
  have hrun : (execOp ρ o).run P w = .ok (.value (.slice (some ⟨b, 0, none⟩) (n + ys.length) cap)) w' := by
    simp [execOp, ho, resolve, invoke, builtin, hr]
  rw [hrun]
  have hset : gh.set s g = gh := set_self hgs
  have keep : ∀ v a, RepA σ gh st v a → RepA σ (gh.set s g) (st.set s (.row (k + 1) e sz (xs.take n ++ ys ++ xs.drop (n + ys.length)))) v a :=
    RepA.bump hst hgs (fun b h => by rw [e1] at h; cases h) (fun b h => by rw [e1] at h; cases h)
  have hlen : (xs.take n ++ ys ++ xs.drop (n + ys.length)).length = xs.length := by simp; omega
  have hbk : blkOf g = some b := by rw [e1]; rfl
  have hrr : RepRows σ (vals.take (n * sz) ++ news ++ vals.drop ((n + ys.length) * sz)) sz (xs.take n ++ ys ++ xs.drop (n + ys.length)) := by
    have l1 : (vals.take (n * sz)).length = (xs.take n).length * sz := by rw [List.length_take, List.length_take, hvl, Nat.min_eq_left (by omega), Nat.min_eq_left (by omega)]
    refine ((RepRows.take ⟨hsz, hval⟩ n).append l1 hrows).append ?_ (RepRows.drop ⟨hsz, hval⟩ _)
    rw [List.length_append, l1, hnl, List.length_append, Nat.add_mul]
  have hf := hb.turn (w' := w') hst hgs (by simp) (by rw [hbk]; exact hg) g (.row (k + 1) e sz (xs.take n ++ ys ++ xs.drop (n + ys.length))) (fun b' hb' => .inl hb')
    ⟨vals.take (n * sz) ++ news ++ vals.drop ((n + ys.length) * sz), by
      rw [hlen]
      refine ⟨?_, .inr ⟨b, cap, cur', e1, hbb, hheap', hnc, hcm, by rw [hcs', hcs], htake'⟩⟩
      rw [List.length_append, List.length_append, List.length_take, List.length_drop, hnl, hvl]
      rw [Nat.add_mul] at hmul hmul2 ⊢
      omega, hrr.1, hrr.2, huns, fun v hv' => by
      rcases List.mem_append.1 hv' with h | h
      · rcases List.mem_append.1 h with h | h
        · exact hone v (List.mem_of_mem_take h)
        · exact hone2 v h
      · exact hone v (List.mem_of_mem_drop h)⟩ keep (run_drawn P _ _ hr)
  refine ⟨σ, _, hf, g, .row (k + 1) e sz (xs.take n ++ ys ++ xs.drop (n + ys.length)), by rw [hset]; exact hgs, by rw [List.getElem?_set_self hslt], fun k' e' sz' xs' heq => ?_⟩
  cases heq
  refine ⟨Nat.le_refl _, fun _ => ⟨by rw [hlen]; omega, .inr ⟨b, xs.length, cap, e1, by omega, .inr (by rw [Nat.zero_mul, Nat.sub_zero])⟩⟩⟩
end
end Go.Proofs.Nw.K
end
