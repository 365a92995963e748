/- Bundle 9: NwZP1. -/
import Derived.Test.YtblenipidihemaaGreatDoorNwA8
section
/- Printed by a program of mine (pg.py): functions that may have no answer, and that the code comes to them. -/
open Go Go.RowKit Go.Proofs
set_option linter.unusedVariables false
set_option linter.unusedSimpArgs false
set_option maxHeartbeats 1000000
namespace Go.Proofs.Nw.K

/-! ### newel/newelref05.text -/
def g_newelref05_text (n : Nat) (a0 : Str) (a1 : Str) : Option (Int) :=
  bif (Op.bytesLess a0.toList a1.toList) then (
    some (-1)
  ) else (
    bif (!(Op.bytesLess a0.toList a1.toList || a0.toList == a1.toList)) then (
      some 1
    ) else (
      some 0
    )
  )
theorem g_newelref05_text.ok (n : Nat) (a0 : Str) (a1 : Str) (r : Int) (h : g_newelref05_text n a0 a1 = some r) : Impl Tryz.prog 92 [.one (dstr a0), .one (dstr a1)] [.one (dint r)] := by
  refine impl_wp tabOk Tryz.func92 rfl rfl (by kernel_rfl) ?_
  unfold g_newelref05_text at h
  refine WP_seq ?_
  refine vcc_sound _ _ _ tabOk (by exact rfl) ?_
  repeat (first | refine Ob.mk (by first | rfl | omega | assumption | exact ⟨rfl, rfl, (List.length_map _).symm⟩ | exact ⟨rfl, rfl, by rw [List.length_map]; omega⟩) ?_ | refine Br.t ?_ | refine Br.f ?_)
  refine WP_seq ?_
  refine WP_block ?_
  refine WP_seq ?_
  refine vcc_sound _ _ _ tabOk (by exact rfl) ?_
  repeat (first | refine Ob.mk (by first | rfl | omega | assumption | exact ⟨rfl, rfl, (List.length_map _).symm⟩ | exact ⟨rfl, rfl, by rw [List.length_map]; omega⟩) ?_ | refine Br.t ?_ | refine Br.f ?_)
  refine vcc_sound _ _ _ tabOk (by exact rfl) ?_
  repeat (first | refine Ob.mk (by first | rfl | omega | assumption | exact ⟨rfl, rfl, (List.length_map _).symm⟩ | exact ⟨rfl, rfl, by rw [List.length_map]; omega⟩) ?_ | refine Br.t ?_ | refine Br.f ?_)
  refine Br.mk (fun b1 => ?_) (fun b1 => ?_)
  · replace h := bif_t b1 h
    refine WP_seq ?_
    refine vcc_sound _ _ _ tabOk (by exact rfl) ?_
    repeat (first | refine Ob.mk (by first | rfl | omega | assumption | exact ⟨rfl, rfl, (List.length_map _).symm⟩ | exact ⟨rfl, rfl, by rw [List.length_map]; omega⟩) ?_ | refine Br.t ?_ | refine Br.f ?_)
    refine WP_ret ?_
    obtain rfl := Option.some.inj h
    repeat (first | refine Ob.mk (by first | rfl | omega | assumption | exact ⟨rfl, rfl, (List.length_map _).symm⟩ | exact ⟨rfl, rfl, by rw [List.length_map]; omega⟩) ?_ | refine Br.t ?_ | refine Br.f ?_)
    exact ⟨DLe.refl _, trivial⟩
  · replace h := bif_f b1 h
    refine WP_seq ?_
    refine vcc_sound _ _ _ tabOk (by exact rfl) ?_
    repeat (first | refine Ob.mk (by first | rfl | omega | assumption | exact ⟨rfl, rfl, (List.length_map _).symm⟩ | exact ⟨rfl, rfl, by rw [List.length_map]; omega⟩) ?_ | refine Br.t ?_ | refine Br.f ?_)
    refine vcc_sound _ _ _ tabOk (by exact rfl) ?_
    repeat (first | refine Ob.mk (by first | rfl | omega | assumption | exact ⟨rfl, rfl, (List.length_map _).symm⟩ | exact ⟨rfl, rfl, by rw [List.length_map]; omega⟩) ?_ | refine Br.t ?_ | refine Br.f ?_)
    refine Br.mk (fun b2 => ?_) (fun b2 => ?_)
    · replace h := bif_t b2 h
      refine WP_seq ?_
      refine vcc_sound _ _ _ tabOk (by exact rfl) ?_
      repeat (first | refine Ob.mk (by first | rfl | omega | assumption | exact ⟨rfl, rfl, (List.length_map _).symm⟩ | exact ⟨rfl, rfl, by rw [List.length_map]; omega⟩) ?_ | refine Br.t ?_ | refine Br.f ?_)
      refine WP_ret ?_
      obtain rfl := Option.some.inj h
      repeat (first | refine Ob.mk (by first | rfl | omega | assumption | exact ⟨rfl, rfl, (List.length_map _).symm⟩ | exact ⟨rfl, rfl, by rw [List.length_map]; omega⟩) ?_ | refine Br.t ?_ | refine Br.f ?_)
      exact ⟨DLe.refl _, trivial⟩
    · replace h := bif_f b2 h
      refine WP_skip ?_
      refine WP_seq ?_
      refine vcc_sound _ _ _ tabOk (by exact rfl) ?_
      repeat (first | refine Ob.mk (by first | rfl | omega | assumption | exact ⟨rfl, rfl, (List.length_map _).symm⟩ | exact ⟨rfl, rfl, by rw [List.length_map]; omega⟩) ?_ | refine Br.t ?_ | refine Br.f ?_)
      refine WP_ret ?_
      obtain rfl := Option.some.inj h
      repeat (first | refine Ob.mk (by first | rfl | omega | assumption | exact ⟨rfl, rfl, (List.length_map _).symm⟩ | exact ⟨rfl, rfl, by rw [List.length_map]; omega⟩) ?_ | refine Br.t ?_ | refine Br.f ?_)
      exact ⟨DLe.refl _, trivial⟩

/-! ### newel/newelref05.one -/
def g_newelref05_one.k7 (n : Nat) (a0 : Wd) (a1 : Wd) (x6 : Bool) : Option (Int) :=
  bif x6 then (
    bif ((a0.text.size : Int) != (a1.text.size : Int)) then (
      bif (decide ((a0.text.size : Int) < (a1.text.size : Int))) then (
        some (-1)
      ) else (
        some 1
      )
    ) else (
      (g_newelref05_text n a0.text a1.text).bind fun y13 =>
      some y13
    )
  ) else (
    some 0
  )
def g_newelref05_one (n : Nat) (a0 : Wd) (a1 : Wd) : Option (Int) :=
  bif (decide (a0.kind < a1.kind)) then (
    some (-1)
  ) else (
    bif (decide (a0.kind > a1.kind)) then (
      some 1
    ) else (
      bif (a0.kind == 8) then (
        (g_newelref05_text n a0.text a1.text).bind fun y4 =>
        some y4
      ) else (
        bif (a0.kind == 9) then (
          g_newelref05_one.k7 n a0 a1 true
        ) else (
          g_newelref05_one.k7 n a0 a1 (a0.kind == 10)
        )
      )
    )
  )
theorem g_newelref05_one.ok (n : Nat) (a0 : Wd) (a1 : Wd) (r : Int) (h : g_newelref05_one n a0 a1 = some r) : Impl Tryz.prog 56 [.agg (encWd a0), .agg (encWd a1)] [.one (dint r)] := by
  refine impl_wp tabOk Tryz.func56 rfl rfl (by kernel_rfl) ?_
  unfold g_newelref05_one at h
  refine WP_seq ?_
  refine vcc_sound _ _ _ tabOk (by exact rfl) ?_
  repeat (first | refine Ob.mk (by first | rfl | omega | assumption | exact ⟨rfl, rfl, (List.length_map _).symm⟩ | exact ⟨rfl, rfl, by rw [List.length_map]; omega⟩) ?_ | refine Br.t ?_ | refine Br.f ?_)
  refine WP_seq ?_
  refine WP_block ?_
  refine WP_seq ?_
  refine vcc_sound _ _ _ tabOk (by exact rfl) ?_
  repeat (first | refine Ob.mk (by first | rfl | omega | assumption | exact ⟨rfl, rfl, (List.length_map _).symm⟩ | exact ⟨rfl, rfl, by rw [List.length_map]; omega⟩) ?_ | refine Br.t ?_ | refine Br.f ?_)
  refine vcc_sound _ _ _ tabOk (by exact rfl) ?_
  repeat (first | refine Ob.mk (by first | rfl | omega | assumption | exact ⟨rfl, rfl, (List.length_map _).symm⟩ | exact ⟨rfl, rfl, by rw [List.length_map]; omega⟩) ?_ | refine Br.t ?_ | refine Br.f ?_)
  refine Br.mk (fun b1 => ?_) (fun b1 => ?_)
  · replace h := bif_t b1 h
    refine WP_seq ?_
    refine vcc_sound _ _ _ tabOk (by exact rfl) ?_
    repeat (first | refine Ob.mk (by first | rfl | omega | assumption | exact ⟨rfl, rfl, (List.length_map _).symm⟩ | exact ⟨rfl, rfl, by rw [List.length_map]; omega⟩) ?_ | refine Br.t ?_ | refine Br.f ?_)
    refine WP_ret ?_
    obtain rfl := Option.some.inj h
    repeat (first | refine Ob.mk (by first | rfl | omega | assumption | exact ⟨rfl, rfl, (List.length_map _).symm⟩ | exact ⟨rfl, rfl, by rw [List.length_map]; omega⟩) ?_ | refine Br.t ?_ | refine Br.f ?_)
    exact ⟨DLe.refl _, trivial⟩
  · replace h := bif_f b1 h
    refine WP_seq ?_
    refine vcc_sound _ _ _ tabOk (by exact rfl) ?_
    repeat (first | refine Ob.mk (by first | rfl | omega | assumption | exact ⟨rfl, rfl, (List.length_map _).symm⟩ | exact ⟨rfl, rfl, by rw [List.length_map]; omega⟩) ?_ | refine Br.t ?_ | refine Br.f ?_)
    refine vcc_sound _ _ _ tabOk (by exact rfl) ?_
    repeat (first | refine Ob.mk (by first | rfl | omega | assumption | exact ⟨rfl, rfl, (List.length_map _).symm⟩ | exact ⟨rfl, rfl, by rw [List.length_map]; omega⟩) ?_ | refine Br.t ?_ | refine Br.f ?_)
    refine Br.mk (fun b2 => ?_) (fun b2 => ?_)
    · replace h := bif_t b2 h
      refine WP_seq ?_
      refine vcc_sound _ _ _ tabOk (by exact rfl) ?_
      repeat (first | refine Ob.mk (by first | rfl | omega | assumption | exact ⟨rfl, rfl, (List.length_map _).symm⟩ | exact ⟨rfl, rfl, by rw [List.length_map]; omega⟩) ?_ | refine Br.t ?_ | refine Br.f ?_)
      refine WP_ret ?_
      obtain rfl := Option.some.inj h
      repeat (first | refine Ob.mk (by first | rfl | omega | assumption | exact ⟨rfl, rfl, (List.length_map _).symm⟩ | exact ⟨rfl, rfl, by rw [List.length_map]; omega⟩) ?_ | refine Br.t ?_ | refine Br.f ?_)
      exact ⟨DLe.refl _, trivial⟩
    · replace h := bif_f b2 h
      refine WP_seq ?_
      refine vcc_sound _ _ _ tabOk (by exact rfl) ?_
      repeat (first | refine Ob.mk (by first | rfl | omega | assumption | exact ⟨rfl, rfl, (List.length_map _).symm⟩ | exact ⟨rfl, rfl, by rw [List.length_map]; omega⟩) ?_ | refine Br.t ?_ | refine Br.f ?_)
      refine vcc_sound _ _ _ tabOk (by exact rfl) ?_
      repeat (first | refine Ob.mk (by first | rfl | omega | assumption | exact ⟨rfl, rfl, (List.length_map _).symm⟩ | exact ⟨rfl, rfl, by rw [List.length_map]; omega⟩) ?_ | refine Br.t ?_ | refine Br.f ?_)
      refine Br.mk (fun b3 => ?_) (fun b3 => ?_)
      · replace h := bif_t b3 h
        refine WP_seq ?_
        refine vcc_sound _ _ _ tabOk (by exact rfl) ?_
        obtain ⟨y4, hy4, h⟩ := bind_some h
        repeat (first | refine Ob.mk (by first | rfl | omega | assumption | exact ⟨rfl, rfl, (List.length_map _).symm⟩ | exact ⟨rfl, rfl, by rw [List.length_map]; omega⟩) ?_ | refine Br.t ?_ | refine Br.f ?_)
        refine CallD.mk _ _ (g_newelref05_text.ok n a0.text a1.text y4 hy4) (by exact ⟨DLe.refl _, DLe.refl _, trivial⟩) ?_
        repeat (first | refine Ob.mk (by first | rfl | omega | assumption | exact ⟨rfl, rfl, (List.length_map _).symm⟩ | exact ⟨rfl, rfl, by rw [List.length_map]; omega⟩) ?_ | refine Br.t ?_ | refine Br.f ?_)
        refine WP_ret ?_
        obtain rfl := Option.some.inj h
        repeat (first | refine Ob.mk (by first | rfl | omega | assumption | exact ⟨rfl, rfl, (List.length_map _).symm⟩ | exact ⟨rfl, rfl, by rw [List.length_map]; omega⟩) ?_ | refine Br.t ?_ | refine Br.f ?_)
        exact ⟨DLe.refl _, trivial⟩
      · replace h := bif_f b3 h
        refine WP_seq_cut (α := {p : Bool // g_newelref05_one.k7 n a0 a1 p = some r}) (fun p => ofL [(2, .ptr 0 0), (3, .ptr 1 0), (26, .bool p.1)]) (fun p => [.box 94 ((encWd a0).map AV.d), .box 94 ((encWd a1).map AV.d)]) ?_ ?_
        rotate_left
        · rintro ⟨x6, h⟩
          replace h : g_newelref05_one.k7 n a0 a1 x6 = some r := h
          unfold g_newelref05_one.k7 at h
          try dsimp only
          refine vcc_sound _ _ _ tabOk (by exact rfl) ?_
          repeat (first | refine Ob.mk (by first | rfl | omega | assumption | exact ⟨rfl, rfl, (List.length_map _).symm⟩ | exact ⟨rfl, rfl, by rw [List.length_map]; omega⟩) ?_ | refine Br.t ?_ | refine Br.f ?_)
          refine Br.mk (fun b8 => ?_) (fun b8 => ?_)
          · replace h := bif_t b8 h
            refine WP_seq ?_
            refine WP_seq ?_
            refine vcc_sound _ _ _ tabOk (by exact rfl) ?_
            repeat (first | refine Ob.mk (by first | rfl | omega | assumption | exact ⟨rfl, rfl, (List.length_map _).symm⟩ | exact ⟨rfl, rfl, by rw [List.length_map]; omega⟩) ?_ | refine Br.t ?_ | refine Br.f ?_)
            refine vcc_sound _ _ _ tabOk (by exact rfl) ?_
            repeat (first | refine Ob.mk (by first | rfl | omega | assumption | exact ⟨rfl, rfl, (List.length_map _).symm⟩ | exact ⟨rfl, rfl, by rw [List.length_map]; omega⟩) ?_ | refine Br.t ?_ | refine Br.f ?_)
            refine Br.mk (fun b11 => ?_) (fun b11 => ?_)
            · replace h := bif_t b11 h
              refine WP_seq ?_
              refine WP_seq ?_
              refine vcc_sound _ _ _ tabOk (by exact rfl) ?_
              repeat (first | refine Ob.mk (by first | rfl | omega | assumption | exact ⟨rfl, rfl, (List.length_map _).symm⟩ | exact ⟨rfl, rfl, by rw [List.length_map]; omega⟩) ?_ | refine Br.t ?_ | refine Br.f ?_)
              refine vcc_sound _ _ _ tabOk (by exact rfl) ?_
              repeat (first | refine Ob.mk (by first | rfl | omega | assumption | exact ⟨rfl, rfl, (List.length_map _).symm⟩ | exact ⟨rfl, rfl, by rw [List.length_map]; omega⟩) ?_ | refine Br.t ?_ | refine Br.f ?_)
              refine Br.mk (fun b12 => ?_) (fun b12 => ?_)
              · replace h := bif_t b12 h
                refine WP_seq ?_
                refine vcc_sound _ _ _ tabOk (by exact rfl) ?_
                repeat (first | refine Ob.mk (by first | rfl | omega | assumption | exact ⟨rfl, rfl, (List.length_map _).symm⟩ | exact ⟨rfl, rfl, by rw [List.length_map]; omega⟩) ?_ | refine Br.t ?_ | refine Br.f ?_)
                refine WP_ret ?_
                obtain rfl := Option.some.inj h
                repeat (first | refine Ob.mk (by first | rfl | omega | assumption | exact ⟨rfl, rfl, (List.length_map _).symm⟩ | exact ⟨rfl, rfl, by rw [List.length_map]; omega⟩) ?_ | refine Br.t ?_ | refine Br.f ?_)
                exact ⟨DLe.refl _, trivial⟩
              · replace h := bif_f b12 h
                refine WP_skip ?_
                refine WP_seq ?_
                refine vcc_sound _ _ _ tabOk (by exact rfl) ?_
                repeat (first | refine Ob.mk (by first | rfl | omega | assumption | exact ⟨rfl, rfl, (List.length_map _).symm⟩ | exact ⟨rfl, rfl, by rw [List.length_map]; omega⟩) ?_ | refine Br.t ?_ | refine Br.f ?_)
                refine WP_ret ?_
                obtain rfl := Option.some.inj h
                repeat (first | refine Ob.mk (by first | rfl | omega | assumption | exact ⟨rfl, rfl, (List.length_map _).symm⟩ | exact ⟨rfl, rfl, by rw [List.length_map]; omega⟩) ?_ | refine Br.t ?_ | refine Br.f ?_)
                exact ⟨DLe.refl _, trivial⟩
            · replace h := bif_f b11 h
              refine WP_skip ?_
              refine WP_seq ?_
              refine vcc_sound _ _ _ tabOk (by exact rfl) ?_
              obtain ⟨y13, hy13, h⟩ := bind_some h
              repeat (first | refine Ob.mk (by first | rfl | omega | assumption | exact ⟨rfl, rfl, (List.length_map _).symm⟩ | exact ⟨rfl, rfl, by rw [List.length_map]; omega⟩) ?_ | refine Br.t ?_ | refine Br.f ?_)
              refine CallD.mk _ _ (g_newelref05_text.ok n a0.text a1.text y13 hy13) (by exact ⟨DLe.refl _, DLe.refl _, trivial⟩) ?_
              repeat (first | refine Ob.mk (by first | rfl | omega | assumption | exact ⟨rfl, rfl, (List.length_map _).symm⟩ | exact ⟨rfl, rfl, by rw [List.length_map]; omega⟩) ?_ | refine Br.t ?_ | refine Br.f ?_)
              refine WP_ret ?_
              obtain rfl := Option.some.inj h
              repeat (first | refine Ob.mk (by first | rfl | omega | assumption | exact ⟨rfl, rfl, (List.length_map _).symm⟩ | exact ⟨rfl, rfl, by rw [List.length_map]; omega⟩) ?_ | refine Br.t ?_ | refine Br.f ?_)
              exact ⟨DLe.refl _, trivial⟩
          · replace h := bif_f b8 h
            refine WP_skip ?_
            refine WP_seq ?_
            refine vcc_sound _ _ _ tabOk (by exact rfl) ?_
            repeat (first | refine Ob.mk (by first | rfl | omega | assumption | exact ⟨rfl, rfl, (List.length_map _).symm⟩ | exact ⟨rfl, rfl, by rw [List.length_map]; omega⟩) ?_ | refine Br.t ?_ | refine Br.f ?_)
            refine WP_ret ?_
            obtain rfl := Option.some.inj h
            repeat (first | refine Ob.mk (by first | rfl | omega | assumption | exact ⟨rfl, rfl, (List.length_map _).symm⟩ | exact ⟨rfl, rfl, by rw [List.length_map]; omega⟩) ?_ | refine Br.t ?_ | refine Br.f ?_)
            exact ⟨DLe.refl _, trivial⟩
        refine vcc_sound _ _ _ tabOk (by exact rfl) ?_
        repeat (first | refine Ob.mk (by first | rfl | omega | assumption | exact ⟨rfl, rfl, (List.length_map _).symm⟩ | exact ⟨rfl, rfl, by rw [List.length_map]; omega⟩) ?_ | refine Br.t ?_ | refine Br.f ?_)
        refine Br.mk (fun b14 => ?_) (fun b14 => ?_)
        · replace h := bif_t b14 h
          repeat (first | refine Ob.mk (by first | rfl | omega | assumption | exact ⟨rfl, rfl, (List.length_map _).symm⟩ | exact ⟨rfl, rfl, by rw [List.length_map]; omega⟩) ?_ | refine Br.t ?_ | refine Br.f ?_)
          repeat (first | refine Ob.mk (by first | rfl | omega | assumption | exact ⟨rfl, rfl, (List.length_map _).symm⟩ | exact ⟨rfl, rfl, by rw [List.length_map]; omega⟩) ?_ | refine Br.t ?_ | refine Br.f ?_)
          exact ⟨⟨true, h⟩, Sub.ofL _ _ (Nat.zero_le _) ⟨rfl, rfl, rfl, rfl, rfl, rfl, trivial⟩ rfl rfl⟩
        · replace h := bif_f b14 h
          repeat (first | refine Ob.mk (by first | rfl | omega | assumption | exact ⟨rfl, rfl, (List.length_map _).symm⟩ | exact ⟨rfl, rfl, by rw [List.length_map]; omega⟩) ?_ | refine Br.t ?_ | refine Br.f ?_)
          repeat (first | refine Ob.mk (by first | rfl | omega | assumption | exact ⟨rfl, rfl, (List.length_map _).symm⟩ | exact ⟨rfl, rfl, by rw [List.length_map]; omega⟩) ?_ | refine Br.t ?_ | refine Br.f ?_)
          exact ⟨⟨(a0.kind == 10), h⟩, Sub.ofL _ _ (Nat.zero_le _) ⟨rfl, rfl, rfl, rfl, rfl, rfl, trivial⟩ rfl rfl⟩

/-! ### newel/newelref05.number -/
def g_newelref05_number.k12 (n : Nat) (a0 : Pt) (x13 : Str) : Option (Wd) :=
  bif (x13.toList == emp.toList) then (
    some (Wd.mk 6 emp)
  ) else (
    bif a0.dash then (
      some (Wd.mk 9 x13)
    ) else (
      some (Wd.mk 10 x13)
    )
  )
def g_newelref05_number.l12b (n : Nat) (a0 : Pt) (rec12 : Str → Option (Wd)) (x16 : Str) : Option (Wd) :=
  bif (decide ((x16.size : Int) > 0)) then (
    chk (0 ≤ (0 : Int) ∧ 0 < (x16.size : Int)) <|
    bif ((byteAt x16 0) == 48) then (
      chk (0 ≤ (1 : Int) ∧ 1 ≤ (x16.size : Int)) <|
      rec12 (x16.extract 1 x16.size)
    ) else (
      g_newelref05_number.k12 n a0 x16
    )
  ) else (
    g_newelref05_number.k12 n a0 x16
  )
def g_newelref05_number.l12 (n : Nat) (a0 : Pt) : Nat → Str → Option (Wd)
  | 0, _ => none
  | m + 1, x16 => g_newelref05_number.l12b n a0 (g_newelref05_number.l12 n a0 m) x16
def g_newelref05_number (n : Nat) (a0 : Pt) : Option (Wd) :=
  g_newelref05_number.l12 n a0 n a0.text
theorem g_newelref05_number.ok (n : Nat) (a0 : Pt) (r : Wd) (h : g_newelref05_number n a0 = some r) : Impl Tryz.prog 94 [.agg (encPt a0)] [.agg (encWd r)] := by
  refine impl_wp tabOk Tryz.func94 rfl rfl (by kernel_rfl) ?_
  unfold g_newelref05_number at h
  refine WP_seq ?_
  refine vcc_sound _ _ _ tabOk (by exact rfl) ?_
  repeat (first | refine Ob.mk (by first | rfl | omega | assumption | exact ⟨rfl, rfl, (List.length_map _).symm⟩ | exact ⟨rfl, rfl, by rw [List.length_map]; omega⟩) ?_ | refine Br.t ?_ | refine Br.f ?_)
  refine WP_seq ?_
  refine vcc_sound _ _ _ tabOk (by exact rfl) ?_
  repeat (first | refine Ob.mk (by first | rfl | omega | assumption | exact ⟨rfl, rfl, (List.length_map _).symm⟩ | exact ⟨rfl, rfl, by rw [List.length_map]; omega⟩) ?_ | refine Br.t ?_ | refine Br.f ?_)
  refine WP_seq_cut (α := {p : Str // g_newelref05_number.k12 n a0 p = some r}) (fun p => ofL [(1, .ptr 0 0), (2, .ptr 1 0), (3, .str p.1)]) (fun p => [.box 101 ((encPt a0).map AV.d), .box 94 ((encWd (Wd.mk 0 emp)).map AV.d)]) (WP_block (WP_loop (α := {x : Nat × Str // g_newelref05_number.l12 n a0 x.1 x.2 = some r}) (fun x => ofL [(1, .ptr 0 0), (2, .ptr 1 0), (3, .str x.1.2)]) (fun x => [.box 101 ((encPt a0).map AV.d), .box 94 ((encWd (Wd.mk 0 emp)).map AV.d)]) (fun x => x.1.1) ⟨(n, a0.text), h⟩ (Sub.ofL _ _ (Nat.zero_le _) ⟨rfl, rfl, rfl, rfl, rfl, rfl, trivial⟩ rfl rfl) ?_)) ?_
  rotate_left
  · rintro ⟨x13, h⟩
    replace h : g_newelref05_number.k12 n a0 x13 = some r := h
    unfold g_newelref05_number.k12 at h
    try dsimp only
    refine WP_seq ?_
    refine WP_block ?_
    refine WP_seq ?_
    refine vcc_sound _ _ _ tabOk (by exact rfl) ?_
    repeat (first | refine Ob.mk (by first | rfl | omega | assumption | exact ⟨rfl, rfl, (List.length_map _).symm⟩ | exact ⟨rfl, rfl, by rw [List.length_map]; omega⟩) ?_ | refine Br.t ?_ | refine Br.f ?_)
    refine vcc_sound _ _ _ tabOk (by exact rfl) ?_
    repeat (first | refine Ob.mk (by first | rfl | omega | assumption | exact ⟨rfl, rfl, (List.length_map _).symm⟩ | exact ⟨rfl, rfl, by rw [List.length_map]; omega⟩) ?_ | refine Br.t ?_ | refine Br.f ?_)
    refine Br.mk (fun b14 => ?_) (fun b14 => ?_)
    · replace h := bif_t b14 h
      refine WP_seq ?_
      refine vcc_sound _ _ _ tabOk (by exact rfl) ?_
      repeat (first | refine Ob.mk (by first | rfl | omega | assumption | exact ⟨rfl, rfl, (List.length_map _).symm⟩ | exact ⟨rfl, rfl, by rw [List.length_map]; omega⟩) ?_ | refine Br.t ?_ | refine Br.f ?_)
      refine WP_ret ?_
      obtain rfl := Option.some.inj h
      repeat (first | refine Ob.mk (by first | rfl | omega | assumption | exact ⟨rfl, rfl, (List.length_map _).symm⟩ | exact ⟨rfl, rfl, by rw [List.length_map]; omega⟩) ?_ | refine Br.t ?_ | refine Br.f ?_)
      exact ⟨DLe.refl _, trivial⟩
    · replace h := bif_f b14 h
      refine WP_seq ?_
      refine vcc_sound _ _ _ tabOk (by exact rfl) ?_
      repeat (first | refine Ob.mk (by first | rfl | omega | assumption | exact ⟨rfl, rfl, (List.length_map _).symm⟩ | exact ⟨rfl, rfl, by rw [List.length_map]; omega⟩) ?_ | refine Br.t ?_ | refine Br.f ?_)
      refine vcc_sound _ _ _ tabOk (by exact rfl) ?_
      repeat (first | refine Ob.mk (by first | rfl | omega | assumption | exact ⟨rfl, rfl, (List.length_map _).symm⟩ | exact ⟨rfl, rfl, by rw [List.length_map]; omega⟩) ?_ | refine Br.t ?_ | refine Br.f ?_)
      refine Br.mk (fun b15 => ?_) (fun b15 => ?_)
      · replace h := bif_t b15 h
        refine WP_seq ?_
        refine vcc_sound _ _ _ tabOk (by exact rfl) ?_
        repeat (first | refine Ob.mk (by first | rfl | omega | assumption | exact ⟨rfl, rfl, (List.length_map _).symm⟩ | exact ⟨rfl, rfl, by rw [List.length_map]; omega⟩) ?_ | refine Br.t ?_ | refine Br.f ?_)
        refine WP_ret ?_
        obtain rfl := Option.some.inj h
        repeat (first | refine Ob.mk (by first | rfl | omega | assumption | exact ⟨rfl, rfl, (List.length_map _).symm⟩ | exact ⟨rfl, rfl, by rw [List.length_map]; omega⟩) ?_ | refine Br.t ?_ | refine Br.f ?_)
        exact ⟨DLe.refl _, trivial⟩
      · replace h := bif_f b15 h
        refine WP_skip ?_
        refine WP_seq ?_
        refine vcc_sound _ _ _ tabOk (by exact rfl) ?_
        repeat (first | refine Ob.mk (by first | rfl | omega | assumption | exact ⟨rfl, rfl, (List.length_map _).symm⟩ | exact ⟨rfl, rfl, by rw [List.length_map]; omega⟩) ?_ | refine Br.t ?_ | refine Br.f ?_)
        refine WP_ret ?_
        obtain rfl := Option.some.inj h
        repeat (first | refine Ob.mk (by first | rfl | omega | assumption | exact ⟨rfl, rfl, (List.length_map _).symm⟩ | exact ⟨rfl, rfl, by rw [List.length_map]; omega⟩) ?_ | refine Br.t ?_ | refine Br.f ?_)
        exact ⟨DLe.refl _, trivial⟩
  rintro ⟨⟨m12, x16⟩, h⟩
  cases m12 with
  | zero => exact nomatch (show (none : Option (Wd)) = some r from h)
  | succ m12 =>
    replace h : g_newelref05_number.l12b n a0 (g_newelref05_number.l12 n a0 m12) x16 = some r := h
    unfold g_newelref05_number.l12b at h
    try dsimp only
    refine WP_seq ?_
    refine WP_seq ?_
    refine vcc_sound _ _ _ tabOk (by exact rfl) ?_
    repeat (first | refine Ob.mk (by first | rfl | omega | assumption | exact ⟨rfl, rfl, (List.length_map _).symm⟩ | exact ⟨rfl, rfl, by rw [List.length_map]; omega⟩) ?_ | refine Br.t ?_ | refine Br.f ?_)
    refine Br.mk (fun b17 => ?_) (fun b17 => ?_)
    · replace h := bif_t b17 h
      obtain ⟨c18, h⟩ := chk_some h
      repeat (first | refine Ob.mk (by first | rfl | omega | assumption | exact ⟨rfl, rfl, (List.length_map _).symm⟩ | exact ⟨rfl, rfl, by rw [List.length_map]; omega⟩) ?_ | refine Br.t ?_ | refine Br.f ?_)
      refine vcc_sound _ _ _ tabOk (by exact rfl) ?_
      repeat (first | refine Ob.mk (by first | rfl | omega | assumption | exact ⟨rfl, rfl, (List.length_map _).symm⟩ | exact ⟨rfl, rfl, by rw [List.length_map]; omega⟩) ?_ | refine Br.t ?_ | refine Br.f ?_)
      refine Br.mk (fun b19 => ?_) (fun b19 => ?_)
      · replace h := bif_t b19 h
        refine WP_skip ?_
        refine WP_block ?_
        refine vcc_sound _ _ _ tabOk (by exact rfl) ?_
        obtain ⟨c20, h⟩ := chk_some h
        repeat (first | refine Ob.mk (by first | rfl | omega | assumption | exact ⟨rfl, rfl, (List.length_map _).symm⟩ | exact ⟨rfl, rfl, by rw [List.length_map]; omega⟩) ?_ | refine Br.t ?_ | refine Br.f ?_)
        repeat (first | refine Ob.mk (by first | rfl | omega | assumption | exact ⟨rfl, rfl, (List.length_map _).symm⟩ | exact ⟨rfl, rfl, by rw [List.length_map]; omega⟩) ?_ | refine Br.t ?_ | refine Br.f ?_)
        exact ⟨⟨(m12, (x16.extract 1 x16.size)), h⟩, Nat.lt_succ_self _, Sub.ofL _ _ (Nat.zero_le _) ⟨rfl, rfl, rfl, rfl, rfl, rfl, trivial⟩ rfl rfl⟩
      · replace h := bif_f b19 h
        refine WP_exit ?_
        repeat (first | refine Ob.mk (by first | rfl | omega | assumption | exact ⟨rfl, rfl, (List.length_map _).symm⟩ | exact ⟨rfl, rfl, by rw [List.length_map]; omega⟩) ?_ | refine Br.t ?_ | refine Br.f ?_)
        exact ⟨⟨x16, h⟩, Sub.ofL _ _ (Nat.zero_le _) ⟨rfl, rfl, rfl, rfl, rfl, rfl, trivial⟩ rfl rfl⟩
    · replace h := bif_f b17 h
      repeat (first | refine Ob.mk (by first | rfl | omega | assumption | exact ⟨rfl, rfl, (List.length_map _).symm⟩ | exact ⟨rfl, rfl, by rw [List.length_map]; omega⟩) ?_ | refine Br.t ?_ | refine Br.f ?_)
      refine vcc_sound _ _ _ tabOk (by exact rfl) ?_
      repeat (first | refine Ob.mk (by first | rfl | omega | assumption | exact ⟨rfl, rfl, (List.length_map _).symm⟩ | exact ⟨rfl, rfl, by rw [List.length_map]; omega⟩) ?_ | refine Br.t ?_ | refine Br.f ?_)
      refine WP_exit ?_
      repeat (first | refine Ob.mk (by first | rfl | omega | assumption | exact ⟨rfl, rfl, (List.length_map _).symm⟩ | exact ⟨rfl, rfl, by rw [List.length_map]; omega⟩) ?_ | refine Br.t ?_ | refine Br.f ?_)
      exact ⟨⟨x16, h⟩, Sub.ofL _ _ (Nat.zero_le _) ⟨rfl, rfl, rfl, rfl, rfl, rfl, trivial⟩ rfl rfl⟩

/-! ### newel/newelref01.Digit -/
def g_newelref01_Digit (n : Nat) (a0 : Int) : Option (Bool) :=
  bif (decide (a0 ≥ 48)) then (
    some (decide (a0 ≤ 57))
  ) else (
    some false
  )
theorem g_newelref01_Digit.ok (n : Nat) (a0 : Int) (r : Bool) (h : g_newelref01_Digit n a0 = some r) : Impl Tryz.prog 93 [.one (dbyte a0)] [.one (dbool r)] := by
  refine impl_wp tabOk Tryz.func93 rfl rfl (by kernel_rfl) ?_
  unfold g_newelref01_Digit at h
  refine WP_seq ?_
  refine vcc_sound _ _ _ tabOk (by exact rfl) ?_
  repeat (first | refine Ob.mk (by first | rfl | omega | assumption | exact ⟨rfl, rfl, (List.length_map _).symm⟩ | exact ⟨rfl, rfl, by rw [List.length_map]; omega⟩) ?_ | refine Br.t ?_ | refine Br.f ?_)
  refine WP_seq ?_
  refine vcc_sound _ _ _ tabOk (by exact rfl) ?_
  repeat (first | refine Ob.mk (by first | rfl | omega | assumption | exact ⟨rfl, rfl, (List.length_map _).symm⟩ | exact ⟨rfl, rfl, by rw [List.length_map]; omega⟩) ?_ | refine Br.t ?_ | refine Br.f ?_)
  refine Br.mk (fun b1 => ?_) (fun b1 => ?_)
  · replace h := bif_t b1 h
    repeat (first | refine Ob.mk (by first | rfl | omega | assumption | exact ⟨rfl, rfl, (List.length_map _).symm⟩ | exact ⟨rfl, rfl, by rw [List.length_map]; omega⟩) ?_ | refine Br.t ?_ | refine Br.f ?_)
    refine WP_ret ?_
    obtain rfl := Option.some.inj h
    repeat (first | refine Ob.mk (by first | rfl | omega | assumption | exact ⟨rfl, rfl, (List.length_map _).symm⟩ | exact ⟨rfl, rfl, by rw [List.length_map]; omega⟩) ?_ | refine Br.t ?_ | refine Br.f ?_)
    exact ⟨DLe.refl _, trivial⟩
  · replace h := bif_f b1 h
    repeat (first | refine Ob.mk (by first | rfl | omega | assumption | exact ⟨rfl, rfl, (List.length_map _).symm⟩ | exact ⟨rfl, rfl, by rw [List.length_map]; omega⟩) ?_ | refine Br.t ?_ | refine Br.f ?_)
    refine WP_ret ?_
    obtain rfl := Option.some.inj h
    repeat (first | refine Ob.mk (by first | rfl | omega | assumption | exact ⟨rfl, rfl, (List.length_map _).symm⟩ | exact ⟨rfl, rfl, by rw [List.length_map]; omega⟩) ?_ | refine Br.t ?_ | refine Br.f ?_)
    exact ⟨DLe.refl _, trivial⟩

/-! ### newel/newelref05.word -/
def g_newelref05_word.k42 (n : Nat) (a0 : Pt) (x41 : Int) : Option (Wd) :=
  bif (x41 == 8) then (
    some (Wd.mk x41 a0.text)
  ) else (
    some (Wd.mk x41 emp)
  )
def g_newelref05_word.k36 (n : Nat) (a0 : Pt) (x35 : Int) : Option (Wd) :=
  bif a0.number then (
    bif (a0.text.toList == (⟨#[97]⟩ : Str).toList) then (
      g_newelref05_word.k42 n a0 1
    ) else (
      bif (a0.text.toList == (⟨#[98]⟩ : Str).toList) then (
        g_newelref05_word.k42 n a0 2
      ) else (
        bif (a0.text.toList == (⟨#[109]⟩ : Str).toList) then (
          g_newelref05_word.k42 n a0 3
        ) else (
          g_newelref05_word.k42 n a0 x35
        )
      )
    )
  ) else (
    g_newelref05_word.k42 n a0 x35
  )
def g_newelref05_word.k59 (n : Nat) (a0 : Pt) (x58 : Bool) : Option (Wd) :=
  bif x58 then (
    g_newelref05_word.k36 n a0 6
  ) else (
    bif (a0.text.toList == (⟨#[115, 112]⟩ : Str).toList) then (
      g_newelref05_word.k36 n a0 7
    ) else (
      g_newelref05_word.k36 n a0 8
    )
  )
def g_newelref05_word.k53 (n : Nat) (a0 : Pt) (x52 : Bool) : Option (Wd) :=
  bif x52 then (
    g_newelref05_word.k36 n a0 4
  ) else (
    bif (a0.text.toList == (⟨#[115, 110, 97, 112, 115, 104, 111, 116]⟩ : Str).toList) then (
      g_newelref05_word.k36 n a0 5
    ) else (
      bif (a0.text.toList == (⟨#[103, 97]⟩ : Str).toList) then (
        g_newelref05_word.k59 n a0 true
      ) else (
        bif (a0.text.toList == (⟨#[102, 105, 110, 97, 108]⟩ : Str).toList) then (
          g_newelref05_word.k59 n a0 true
        ) else (
          g_newelref05_word.k59 n a0 (a0.text.toList == (⟨#[114, 101, 108, 101, 97, 115, 101]⟩ : Str).toList)
        )
      )
    )
  )
def g_newelref05_word.k15 (n : Nat) (a0 : Pt) (x14 : Bool) : Option (Wd) :=
  bif x14 then (
    (g_newelref05_number n a0).bind fun y17 =>
    some y17
  ) else (
    bif (a0.text.toList == (⟨#[97, 108, 112, 104, 97]⟩ : Str).toList) then (
      g_newelref05_word.k36 n a0 1
    ) else (
      bif (a0.text.toList == (⟨#[98, 101, 116, 97]⟩ : Str).toList) then (
        g_newelref05_word.k36 n a0 2
      ) else (
        bif (a0.text.toList == (⟨#[109, 105, 108, 101, 115, 116, 111, 110, 101]⟩ : Str).toList) then (
          g_newelref05_word.k36 n a0 3
        ) else (
          bif (a0.text.toList == (⟨#[114, 99]⟩ : Str).toList) then (
            g_newelref05_word.k53 n a0 true
          ) else (
            g_newelref05_word.k53 n a0 (a0.text.toList == (⟨#[99, 114]⟩ : Str).toList)
          )
        )
      )
    )
  )
def g_newelref05_word (n : Nat) (a0 : Pt) : Option (Wd) :=
  bif (a0.text.toList == emp.toList) then (
    g_newelref05_word.k15 n a0 true
  ) else (
    chk (0 ≤ (0 : Int) ∧ 0 < (a0.text.size : Int)) <|
    (g_newelref01_Digit n (byteAt a0.text 0)).bind fun y67 =>
    g_newelref05_word.k15 n a0 y67
  )
theorem g_newelref05_word.ok (n : Nat) (a0 : Pt) (r : Wd) (h : g_newelref05_word n a0 = some r) : Impl Tryz.prog 59 [.agg (encPt a0)] [.agg (encWd r)] := by
  refine impl_wp tabOk Tryz.func59 rfl rfl (by kernel_rfl) ?_
  unfold g_newelref05_word at h
  refine WP_seq ?_
  refine vcc_sound _ _ _ tabOk (by exact rfl) ?_
  repeat (first | refine Ob.mk (by first | rfl | omega | assumption | exact ⟨rfl, rfl, (List.length_map _).symm⟩ | exact ⟨rfl, rfl, by rw [List.length_map]; omega⟩) ?_ | refine Br.t ?_ | refine Br.f ?_)
  refine WP_seq ?_
  refine WP_seq_cut (α := {p : Bool // g_newelref05_word.k15 n a0 p = some r}) (fun p => ofL [(1, .ptr 0 0), (2, .ptr 1 0), (12, .bool p.1)]) (fun p => [.box 101 ((encPt a0).map AV.d), .box 94 ((encWd (Wd.mk 0 emp)).map AV.d)]) ?_ ?_
  rotate_left
  · rintro ⟨x14, h⟩
    replace h : g_newelref05_word.k15 n a0 x14 = some r := h
    unfold g_newelref05_word.k15 at h
    try dsimp only
    refine vcc_sound _ _ _ tabOk (by exact rfl) ?_
    repeat (first | refine Ob.mk (by first | rfl | omega | assumption | exact ⟨rfl, rfl, (List.length_map _).symm⟩ | exact ⟨rfl, rfl, by rw [List.length_map]; omega⟩) ?_ | refine Br.t ?_ | refine Br.f ?_)
    refine Br.mk (fun b16 => ?_) (fun b16 => ?_)
    · replace h := bif_t b16 h
      refine WP_seq ?_
      refine vcc_sound _ _ _ tabOk (by exact rfl) ?_
      obtain ⟨y17, hy17, h⟩ := bind_some h
      repeat (first | refine Ob.mk (by first | rfl | omega | assumption | exact ⟨rfl, rfl, (List.length_map _).symm⟩ | exact ⟨rfl, rfl, by rw [List.length_map]; omega⟩) ?_ | refine Br.t ?_ | refine Br.f ?_)
      refine CallD.mk _ _ (g_newelref05_number.ok n a0 y17 hy17) (by exact ⟨DLe.refl _, trivial⟩) ?_
      repeat (first | refine Ob.mk (by first | rfl | omega | assumption | exact ⟨rfl, rfl, (List.length_map _).symm⟩ | exact ⟨rfl, rfl, by rw [List.length_map]; omega⟩) ?_ | refine Br.t ?_ | refine Br.f ?_)
      refine WP_ret ?_
      obtain rfl := Option.some.inj h
      repeat (first | refine Ob.mk (by first | rfl | omega | assumption | exact ⟨rfl, rfl, (List.length_map _).symm⟩ | exact ⟨rfl, rfl, by rw [List.length_map]; omega⟩) ?_ | refine Br.t ?_ | refine Br.f ?_)
      exact ⟨DLe.refl _, trivial⟩
    · replace h := bif_f b16 h
      refine WP_skip ?_
      refine WP_seq ?_
      refine vcc_sound _ _ _ tabOk (by exact rfl) ?_
      repeat (first | refine Ob.mk (by first | rfl | omega | assumption | exact ⟨rfl, rfl, (List.length_map _).symm⟩ | exact ⟨rfl, rfl, by rw [List.length_map]; omega⟩) ?_ | refine Br.t ?_ | refine Br.f ?_)
      refine WP_seq_cut (α := {p : Int // g_newelref05_word.k36 n a0 p = some r}) (fun p => ofL [(1, .ptr 0 0), (2, .ptr 1 0), (3, .int p.1)]) (fun p => [.box 101 ((encPt a0).map AV.d), .box 94 ((encWd (Wd.mk 0 emp)).map AV.d)]) ?_ ?_
      rotate_left
      · rintro ⟨x35, h⟩
        replace h : g_newelref05_word.k36 n a0 x35 = some r := h
        unfold g_newelref05_word.k36 at h
        try dsimp only
        refine WP_seq_cut (α := {p : Int // g_newelref05_word.k42 n a0 p = some r}) (fun p => ofL [(1, .ptr 0 0), (2, .ptr 1 0), (3, .int p.1)]) (fun p => [.box 101 ((encPt a0).map AV.d), .box 94 ((encWd (Wd.mk 0 emp)).map AV.d)]) ?_ ?_
        rotate_left
        · rintro ⟨x41, h⟩
          replace h : g_newelref05_word.k42 n a0 x41 = some r := h
          unfold g_newelref05_word.k42 at h
          try dsimp only
          refine WP_seq ?_
          refine WP_seq ?_
          refine vcc_sound _ _ _ tabOk (by exact rfl) ?_
          repeat (first | refine Ob.mk (by first | rfl | omega | assumption | exact ⟨rfl, rfl, (List.length_map _).symm⟩ | exact ⟨rfl, rfl, by rw [List.length_map]; omega⟩) ?_ | refine Br.t ?_ | refine Br.f ?_)
          refine vcc_sound _ _ _ tabOk (by exact rfl) ?_
          repeat (first | refine Ob.mk (by first | rfl | omega | assumption | exact ⟨rfl, rfl, (List.length_map _).symm⟩ | exact ⟨rfl, rfl, by rw [List.length_map]; omega⟩) ?_ | refine Br.t ?_ | refine Br.f ?_)
          refine Br.mk (fun b43 => ?_) (fun b43 => ?_)
          · replace h := bif_t b43 h
            refine WP_seq ?_
            refine vcc_sound _ _ _ tabOk (by exact rfl) ?_
            repeat (first | refine Ob.mk (by first | rfl | omega | assumption | exact ⟨rfl, rfl, (List.length_map _).symm⟩ | exact ⟨rfl, rfl, by rw [List.length_map]; omega⟩) ?_ | refine Br.t ?_ | refine Br.f ?_)
            refine WP_ret ?_
            obtain rfl := Option.some.inj h
            repeat (first | refine Ob.mk (by first | rfl | omega | assumption | exact ⟨rfl, rfl, (List.length_map _).symm⟩ | exact ⟨rfl, rfl, by rw [List.length_map]; omega⟩) ?_ | refine Br.t ?_ | refine Br.f ?_)
            exact ⟨DLe.refl _, trivial⟩
          · replace h := bif_f b43 h
            refine WP_skip ?_
            refine WP_seq ?_
            refine vcc_sound _ _ _ tabOk (by exact rfl) ?_
            repeat (first | refine Ob.mk (by first | rfl | omega | assumption | exact ⟨rfl, rfl, (List.length_map _).symm⟩ | exact ⟨rfl, rfl, by rw [List.length_map]; omega⟩) ?_ | refine Br.t ?_ | refine Br.f ?_)
            refine WP_ret ?_
            obtain rfl := Option.some.inj h
            repeat (first | refine Ob.mk (by first | rfl | omega | assumption | exact ⟨rfl, rfl, (List.length_map _).symm⟩ | exact ⟨rfl, rfl, by rw [List.length_map]; omega⟩) ?_ | refine Br.t ?_ | refine Br.f ?_)
            exact ⟨DLe.refl _, trivial⟩
        refine WP_seq ?_
        refine vcc_sound _ _ _ tabOk (by exact rfl) ?_
        repeat (first | refine Ob.mk (by first | rfl | omega | assumption | exact ⟨rfl, rfl, (List.length_map _).symm⟩ | exact ⟨rfl, rfl, by rw [List.length_map]; omega⟩) ?_ | refine Br.t ?_ | refine Br.f ?_)
        refine vcc_sound _ _ _ tabOk (by exact rfl) ?_
        repeat (first | refine Ob.mk (by first | rfl | omega | assumption | exact ⟨rfl, rfl, (List.length_map _).symm⟩ | exact ⟨rfl, rfl, by rw [List.length_map]; omega⟩) ?_ | refine Br.t ?_ | refine Br.f ?_)
        refine Br.mk (fun b44 => ?_) (fun b44 => ?_)
        · replace h := bif_t b44 h
          refine WP_seq ?_
          refine vcc_sound _ _ _ tabOk (by exact rfl) ?_
          repeat (first | refine Ob.mk (by first | rfl | omega | assumption | exact ⟨rfl, rfl, (List.length_map _).symm⟩ | exact ⟨rfl, rfl, by rw [List.length_map]; omega⟩) ?_ | refine Br.t ?_ | refine Br.f ?_)
          refine WP_block ?_
          refine WP_seq ?_
          refine vcc_sound _ _ _ tabOk (by exact rfl) ?_
          repeat (first | refine Ob.mk (by first | rfl | omega | assumption | exact ⟨rfl, rfl, (List.length_map _).symm⟩ | exact ⟨rfl, rfl, by rw [List.length_map]; omega⟩) ?_ | refine Br.t ?_ | refine Br.f ?_)
          refine vcc_sound _ _ _ tabOk (by exact rfl) ?_
          repeat (first | refine Ob.mk (by first | rfl | omega | assumption | exact ⟨rfl, rfl, (List.length_map _).symm⟩ | exact ⟨rfl, rfl, by rw [List.length_map]; omega⟩) ?_ | refine Br.t ?_ | refine Br.f ?_)
          refine Br.mk (fun b45 => ?_) (fun b45 => ?_)
          · replace h := bif_t b45 h
            refine vcc_sound _ _ _ tabOk (by exact rfl) ?_
            repeat (first | refine Ob.mk (by first | rfl | omega | assumption | exact ⟨rfl, rfl, (List.length_map _).symm⟩ | exact ⟨rfl, rfl, by rw [List.length_map]; omega⟩) ?_ | refine Br.t ?_ | refine Br.f ?_)
            repeat (first | refine Ob.mk (by first | rfl | omega | assumption | exact ⟨rfl, rfl, (List.length_map _).symm⟩ | exact ⟨rfl, rfl, by rw [List.length_map]; omega⟩) ?_ | refine Br.t ?_ | refine Br.f ?_)
            exact ⟨⟨1, h⟩, Sub.ofL _ _ (Nat.zero_le _) ⟨rfl, rfl, rfl, rfl, rfl, rfl, trivial⟩ rfl rfl⟩
          · replace h := bif_f b45 h
            refine WP_seq ?_
            refine vcc_sound _ _ _ tabOk (by exact rfl) ?_
            repeat (first | refine Ob.mk (by first | rfl | omega | assumption | exact ⟨rfl, rfl, (List.length_map _).symm⟩ | exact ⟨rfl, rfl, by rw [List.length_map]; omega⟩) ?_ | refine Br.t ?_ | refine Br.f ?_)
            refine vcc_sound _ _ _ tabOk (by exact rfl) ?_
            repeat (first | refine Ob.mk (by first | rfl | omega | assumption | exact ⟨rfl, rfl, (List.length_map _).symm⟩ | exact ⟨rfl, rfl, by rw [List.length_map]; omega⟩) ?_ | refine Br.t ?_ | refine Br.f ?_)
            refine Br.mk (fun b46 => ?_) (fun b46 => ?_)
            · replace h := bif_t b46 h
              refine vcc_sound _ _ _ tabOk (by exact rfl) ?_
              repeat (first | refine Ob.mk (by first | rfl | omega | assumption | exact ⟨rfl, rfl, (List.length_map _).symm⟩ | exact ⟨rfl, rfl, by rw [List.length_map]; omega⟩) ?_ | refine Br.t ?_ | refine Br.f ?_)
              repeat (first | refine Ob.mk (by first | rfl | omega | assumption | exact ⟨rfl, rfl, (List.length_map _).symm⟩ | exact ⟨rfl, rfl, by rw [List.length_map]; omega⟩) ?_ | refine Br.t ?_ | refine Br.f ?_)
              exact ⟨⟨2, h⟩, Sub.ofL _ _ (Nat.zero_le _) ⟨rfl, rfl, rfl, rfl, rfl, rfl, trivial⟩ rfl rfl⟩
            · replace h := bif_f b46 h
              refine WP_seq ?_
              refine vcc_sound _ _ _ tabOk (by exact rfl) ?_
              repeat (first | refine Ob.mk (by first | rfl | omega | assumption | exact ⟨rfl, rfl, (List.length_map _).symm⟩ | exact ⟨rfl, rfl, by rw [List.length_map]; omega⟩) ?_ | refine Br.t ?_ | refine Br.f ?_)
              refine vcc_sound _ _ _ tabOk (by exact rfl) ?_
              repeat (first | refine Ob.mk (by first | rfl | omega | assumption | exact ⟨rfl, rfl, (List.length_map _).symm⟩ | exact ⟨rfl, rfl, by rw [List.length_map]; omega⟩) ?_ | refine Br.t ?_ | refine Br.f ?_)
              refine Br.mk (fun b47 => ?_) (fun b47 => ?_)
              · replace h := bif_t b47 h
                refine vcc_sound _ _ _ tabOk (by exact rfl) ?_
                repeat (first | refine Ob.mk (by first | rfl | omega | assumption | exact ⟨rfl, rfl, (List.length_map _).symm⟩ | exact ⟨rfl, rfl, by rw [List.length_map]; omega⟩) ?_ | refine Br.t ?_ | refine Br.f ?_)
                repeat (first | refine Ob.mk (by first | rfl | omega | assumption | exact ⟨rfl, rfl, (List.length_map _).symm⟩ | exact ⟨rfl, rfl, by rw [List.length_map]; omega⟩) ?_ | refine Br.t ?_ | refine Br.f ?_)
                exact ⟨⟨3, h⟩, Sub.ofL _ _ (Nat.zero_le _) ⟨rfl, rfl, rfl, rfl, rfl, rfl, trivial⟩ rfl rfl⟩
              · replace h := bif_f b47 h
                refine WP_skip ?_
                repeat (first | refine Ob.mk (by first | rfl | omega | assumption | exact ⟨rfl, rfl, (List.length_map _).symm⟩ | exact ⟨rfl, rfl, by rw [List.length_map]; omega⟩) ?_ | refine Br.t ?_ | refine Br.f ?_)
                exact ⟨⟨x35, h⟩, Sub.ofL _ _ (Nat.zero_le _) ⟨rfl, rfl, rfl, rfl, rfl, rfl, trivial⟩ rfl rfl⟩
        · replace h := bif_f b44 h
          refine WP_skip ?_
          repeat (first | refine Ob.mk (by first | rfl | omega | assumption | exact ⟨rfl, rfl, (List.length_map _).symm⟩ | exact ⟨rfl, rfl, by rw [List.length_map]; omega⟩) ?_ | refine Br.t ?_ | refine Br.f ?_)
          exact ⟨⟨x35, h⟩, Sub.ofL _ _ (Nat.zero_le _) ⟨rfl, rfl, rfl, rfl, rfl, rfl, trivial⟩ rfl rfl⟩
      refine WP_seq ?_
      refine vcc_sound _ _ _ tabOk (by exact rfl) ?_
      repeat (first | refine Ob.mk (by first | rfl | omega | assumption | exact ⟨rfl, rfl, (List.length_map _).symm⟩ | exact ⟨rfl, rfl, by rw [List.length_map]; omega⟩) ?_ | refine Br.t ?_ | refine Br.f ?_)
      refine WP_block ?_
      refine WP_seq ?_
      refine vcc_sound _ _ _ tabOk (by exact rfl) ?_
      repeat (first | refine Ob.mk (by first | rfl | omega | assumption | exact ⟨rfl, rfl, (List.length_map _).symm⟩ | exact ⟨rfl, rfl, by rw [List.length_map]; omega⟩) ?_ | refine Br.t ?_ | refine Br.f ?_)
      refine vcc_sound _ _ _ tabOk (by exact rfl) ?_
      repeat (first | refine Ob.mk (by first | rfl | omega | assumption | exact ⟨rfl, rfl, (List.length_map _).symm⟩ | exact ⟨rfl, rfl, by rw [List.length_map]; omega⟩) ?_ | refine Br.t ?_ | refine Br.f ?_)
      refine Br.mk (fun b48 => ?_) (fun b48 => ?_)
      · replace h := bif_t b48 h
        refine vcc_sound _ _ _ tabOk (by exact rfl) ?_
        repeat (first | refine Ob.mk (by first | rfl | omega | assumption | exact ⟨rfl, rfl, (List.length_map _).symm⟩ | exact ⟨rfl, rfl, by rw [List.length_map]; omega⟩) ?_ | refine Br.t ?_ | refine Br.f ?_)
        repeat (first | refine Ob.mk (by first | rfl | omega | assumption | exact ⟨rfl, rfl, (List.length_map _).symm⟩ | exact ⟨rfl, rfl, by rw [List.length_map]; omega⟩) ?_ | refine Br.t ?_ | refine Br.f ?_)
        exact ⟨⟨1, h⟩, Sub.ofL _ _ (Nat.zero_le _) ⟨rfl, rfl, rfl, rfl, rfl, rfl, trivial⟩ rfl rfl⟩
      · replace h := bif_f b48 h
        refine WP_seq ?_
        refine vcc_sound _ _ _ tabOk (by exact rfl) ?_
        repeat (first | refine Ob.mk (by first | rfl | omega | assumption | exact ⟨rfl, rfl, (List.length_map _).symm⟩ | exact ⟨rfl, rfl, by rw [List.length_map]; omega⟩) ?_ | refine Br.t ?_ | refine Br.f ?_)
        refine vcc_sound _ _ _ tabOk (by exact rfl) ?_
        repeat (first | refine Ob.mk (by first | rfl | omega | assumption | exact ⟨rfl, rfl, (List.length_map _).symm⟩ | exact ⟨rfl, rfl, by rw [List.length_map]; omega⟩) ?_ | refine Br.t ?_ | refine Br.f ?_)
        refine Br.mk (fun b49 => ?_) (fun b49 => ?_)
        · replace h := bif_t b49 h
          refine vcc_sound _ _ _ tabOk (by exact rfl) ?_
          repeat (first | refine Ob.mk (by first | rfl | omega | assumption | exact ⟨rfl, rfl, (List.length_map _).symm⟩ | exact ⟨rfl, rfl, by rw [List.length_map]; omega⟩) ?_ | refine Br.t ?_ | refine Br.f ?_)
          repeat (first | refine Ob.mk (by first | rfl | omega | assumption | exact ⟨rfl, rfl, (List.length_map _).symm⟩ | exact ⟨rfl, rfl, by rw [List.length_map]; omega⟩) ?_ | refine Br.t ?_ | refine Br.f ?_)
          exact ⟨⟨2, h⟩, Sub.ofL _ _ (Nat.zero_le _) ⟨rfl, rfl, rfl, rfl, rfl, rfl, trivial⟩ rfl rfl⟩
        · replace h := bif_f b49 h
          refine WP_seq ?_
          refine vcc_sound _ _ _ tabOk (by exact rfl) ?_
          repeat (first | refine Ob.mk (by first | rfl | omega | assumption | exact ⟨rfl, rfl, (List.length_map _).symm⟩ | exact ⟨rfl, rfl, by rw [List.length_map]; omega⟩) ?_ | refine Br.t ?_ | refine Br.f ?_)
          refine vcc_sound _ _ _ tabOk (by exact rfl) ?_
          repeat (first | refine Ob.mk (by first | rfl | omega | assumption | exact ⟨rfl, rfl, (List.length_map _).symm⟩ | exact ⟨rfl, rfl, by rw [List.length_map]; omega⟩) ?_ | refine Br.t ?_ | refine Br.f ?_)
          refine Br.mk (fun b50 => ?_) (fun b50 => ?_)
          · replace h := bif_t b50 h
            refine vcc_sound _ _ _ tabOk (by exact rfl) ?_
            repeat (first | refine Ob.mk (by first | rfl | omega | assumption | exact ⟨rfl, rfl, (List.length_map _).symm⟩ | exact ⟨rfl, rfl, by rw [List.length_map]; omega⟩) ?_ | refine Br.t ?_ | refine Br.f ?_)
            repeat (first | refine Ob.mk (by first | rfl | omega | assumption | exact ⟨rfl, rfl, (List.length_map _).symm⟩ | exact ⟨rfl, rfl, by rw [List.length_map]; omega⟩) ?_ | refine Br.t ?_ | refine Br.f ?_)
            exact ⟨⟨3, h⟩, Sub.ofL _ _ (Nat.zero_le _) ⟨rfl, rfl, rfl, rfl, rfl, rfl, trivial⟩ rfl rfl⟩
          · replace h := bif_f b50 h
            refine WP_seq_cut (α := {p : Bool // g_newelref05_word.k53 n a0 p = some r}) (fun p => ofL [(1, .ptr 0 0), (2, .ptr 1 0), (3, .int 8), (16, .str a0.text), (23, .bool p.1)]) (fun p => [.box 101 ((encPt a0).map AV.d), .box 94 ((encWd (Wd.mk 0 emp)).map AV.d)]) ?_ ?_
            rotate_left
            · rintro ⟨x52, h⟩
              replace h : g_newelref05_word.k53 n a0 x52 = some r := h
              unfold g_newelref05_word.k53 at h
              try dsimp only
              refine vcc_sound _ _ _ tabOk (by exact rfl) ?_
              repeat (first | refine Ob.mk (by first | rfl | omega | assumption | exact ⟨rfl, rfl, (List.length_map _).symm⟩ | exact ⟨rfl, rfl, by rw [List.length_map]; omega⟩) ?_ | refine Br.t ?_ | refine Br.f ?_)
              refine Br.mk (fun b54 => ?_) (fun b54 => ?_)
              · replace h := bif_t b54 h
                refine vcc_sound _ _ _ tabOk (by exact rfl) ?_
                repeat (first | refine Ob.mk (by first | rfl | omega | assumption | exact ⟨rfl, rfl, (List.length_map _).symm⟩ | exact ⟨rfl, rfl, by rw [List.length_map]; omega⟩) ?_ | refine Br.t ?_ | refine Br.f ?_)
                repeat (first | refine Ob.mk (by first | rfl | omega | assumption | exact ⟨rfl, rfl, (List.length_map _).symm⟩ | exact ⟨rfl, rfl, by rw [List.length_map]; omega⟩) ?_ | refine Br.t ?_ | refine Br.f ?_)
                exact ⟨⟨4, h⟩, Sub.ofL _ _ (Nat.zero_le _) ⟨rfl, rfl, rfl, rfl, rfl, rfl, trivial⟩ rfl rfl⟩
              · replace h := bif_f b54 h
                refine WP_seq ?_
                refine vcc_sound _ _ _ tabOk (by exact rfl) ?_
                repeat (first | refine Ob.mk (by first | rfl | omega | assumption | exact ⟨rfl, rfl, (List.length_map _).symm⟩ | exact ⟨rfl, rfl, by rw [List.length_map]; omega⟩) ?_ | refine Br.t ?_ | refine Br.f ?_)
                refine vcc_sound _ _ _ tabOk (by exact rfl) ?_
                repeat (first | refine Ob.mk (by first | rfl | omega | assumption | exact ⟨rfl, rfl, (List.length_map _).symm⟩ | exact ⟨rfl, rfl, by rw [List.length_map]; omega⟩) ?_ | refine Br.t ?_ | refine Br.f ?_)
                refine Br.mk (fun b55 => ?_) (fun b55 => ?_)
                · replace h := bif_t b55 h
                  refine vcc_sound _ _ _ tabOk (by exact rfl) ?_
                  repeat (first | refine Ob.mk (by first | rfl | omega | assumption | exact ⟨rfl, rfl, (List.length_map _).symm⟩ | exact ⟨rfl, rfl, by rw [List.length_map]; omega⟩) ?_ | refine Br.t ?_ | refine Br.f ?_)
                  repeat (first | refine Ob.mk (by first | rfl | omega | assumption | exact ⟨rfl, rfl, (List.length_map _).symm⟩ | exact ⟨rfl, rfl, by rw [List.length_map]; omega⟩) ?_ | refine Br.t ?_ | refine Br.f ?_)
                  exact ⟨⟨5, h⟩, Sub.ofL _ _ (Nat.zero_le _) ⟨rfl, rfl, rfl, rfl, rfl, rfl, trivial⟩ rfl rfl⟩
                · replace h := bif_f b55 h
                  refine WP_seq_cut (α := {p : Bool // g_newelref05_word.k59 n a0 p = some r}) (fun p => ofL [(1, .ptr 0 0), (2, .ptr 1 0), (3, .int 8), (16, .str a0.text), (28, .bool p.1)]) (fun p => [.box 101 ((encPt a0).map AV.d), .box 94 ((encWd (Wd.mk 0 emp)).map AV.d)]) ?_ ?_
                  rotate_left
                  · rintro ⟨x58, h⟩
                    replace h : g_newelref05_word.k59 n a0 x58 = some r := h
                    unfold g_newelref05_word.k59 at h
                    try dsimp only
                    refine vcc_sound _ _ _ tabOk (by exact rfl) ?_
                    repeat (first | refine Ob.mk (by first | rfl | omega | assumption | exact ⟨rfl, rfl, (List.length_map _).symm⟩ | exact ⟨rfl, rfl, by rw [List.length_map]; omega⟩) ?_ | refine Br.t ?_ | refine Br.f ?_)
                    refine Br.mk (fun b60 => ?_) (fun b60 => ?_)
                    · replace h := bif_t b60 h
                      refine vcc_sound _ _ _ tabOk (by exact rfl) ?_
                      repeat (first | refine Ob.mk (by first | rfl | omega | assumption | exact ⟨rfl, rfl, (List.length_map _).symm⟩ | exact ⟨rfl, rfl, by rw [List.length_map]; omega⟩) ?_ | refine Br.t ?_ | refine Br.f ?_)
                      repeat (first | refine Ob.mk (by first | rfl | omega | assumption | exact ⟨rfl, rfl, (List.length_map _).symm⟩ | exact ⟨rfl, rfl, by rw [List.length_map]; omega⟩) ?_ | refine Br.t ?_ | refine Br.f ?_)
                      exact ⟨⟨6, h⟩, Sub.ofL _ _ (Nat.zero_le _) ⟨rfl, rfl, rfl, rfl, rfl, rfl, trivial⟩ rfl rfl⟩
                    · replace h := bif_f b60 h
                      refine WP_seq ?_
                      refine vcc_sound _ _ _ tabOk (by exact rfl) ?_
                      repeat (first | refine Ob.mk (by first | rfl | omega | assumption | exact ⟨rfl, rfl, (List.length_map _).symm⟩ | exact ⟨rfl, rfl, by rw [List.length_map]; omega⟩) ?_ | refine Br.t ?_ | refine Br.f ?_)
                      refine vcc_sound _ _ _ tabOk (by exact rfl) ?_
                      repeat (first | refine Ob.mk (by first | rfl | omega | assumption | exact ⟨rfl, rfl, (List.length_map _).symm⟩ | exact ⟨rfl, rfl, by rw [List.length_map]; omega⟩) ?_ | refine Br.t ?_ | refine Br.f ?_)
                      refine Br.mk (fun b61 => ?_) (fun b61 => ?_)
                      · replace h := bif_t b61 h
                        refine vcc_sound _ _ _ tabOk (by exact rfl) ?_
                        repeat (first | refine Ob.mk (by first | rfl | omega | assumption | exact ⟨rfl, rfl, (List.length_map _).symm⟩ | exact ⟨rfl, rfl, by rw [List.length_map]; omega⟩) ?_ | refine Br.t ?_ | refine Br.f ?_)
                        repeat (first | refine Ob.mk (by first | rfl | omega | assumption | exact ⟨rfl, rfl, (List.length_map _).symm⟩ | exact ⟨rfl, rfl, by rw [List.length_map]; omega⟩) ?_ | refine Br.t ?_ | refine Br.f ?_)
                        exact ⟨⟨7, h⟩, Sub.ofL _ _ (Nat.zero_le _) ⟨rfl, rfl, rfl, rfl, rfl, rfl, trivial⟩ rfl rfl⟩
                      · replace h := bif_f b61 h
                        refine WP_skip ?_
                        repeat (first | refine Ob.mk (by first | rfl | omega | assumption | exact ⟨rfl, rfl, (List.length_map _).symm⟩ | exact ⟨rfl, rfl, by rw [List.length_map]; omega⟩) ?_ | refine Br.t ?_ | refine Br.f ?_)
                        exact ⟨⟨8, h⟩, Sub.ofL _ _ (Nat.zero_le _) ⟨rfl, rfl, rfl, rfl, rfl, rfl, trivial⟩ rfl rfl⟩
                  refine WP_seq ?_
                  refine vcc_sound _ _ _ tabOk (by exact rfl) ?_
                  repeat (first | refine Ob.mk (by first | rfl | omega | assumption | exact ⟨rfl, rfl, (List.length_map _).symm⟩ | exact ⟨rfl, rfl, by rw [List.length_map]; omega⟩) ?_ | refine Br.t ?_ | refine Br.f ?_)
                  refine vcc_sound _ _ _ tabOk (by exact rfl) ?_
                  repeat (first | refine Ob.mk (by first | rfl | omega | assumption | exact ⟨rfl, rfl, (List.length_map _).symm⟩ | exact ⟨rfl, rfl, by rw [List.length_map]; omega⟩) ?_ | refine Br.t ?_ | refine Br.f ?_)
                  refine Br.mk (fun b62 => ?_) (fun b62 => ?_)
                  · replace h := bif_t b62 h
                    refine WP_skip ?_
                    repeat (first | refine Ob.mk (by first | rfl | omega | assumption | exact ⟨rfl, rfl, (List.length_map _).symm⟩ | exact ⟨rfl, rfl, by rw [List.length_map]; omega⟩) ?_ | refine Br.t ?_ | refine Br.f ?_)
                    exact ⟨⟨true, h⟩, Sub.ofL _ _ (Nat.zero_le _) ⟨rfl, rfl, rfl, rfl, rfl, rfl, rfl, rfl, rfl, rfl, trivial⟩ rfl rfl⟩
                  · replace h := bif_f b62 h
                    refine WP_seq ?_
                    refine vcc_sound _ _ _ tabOk (by exact rfl) ?_
                    repeat (first | refine Ob.mk (by first | rfl | omega | assumption | exact ⟨rfl, rfl, (List.length_map _).symm⟩ | exact ⟨rfl, rfl, by rw [List.length_map]; omega⟩) ?_ | refine Br.t ?_ | refine Br.f ?_)
                    refine vcc_sound _ _ _ tabOk (by exact rfl) ?_
                    repeat (first | refine Ob.mk (by first | rfl | omega | assumption | exact ⟨rfl, rfl, (List.length_map _).symm⟩ | exact ⟨rfl, rfl, by rw [List.length_map]; omega⟩) ?_ | refine Br.t ?_ | refine Br.f ?_)
                    refine Br.mk (fun b63 => ?_) (fun b63 => ?_)
                    · replace h := bif_t b63 h
                      refine WP_skip ?_
                      repeat (first | refine Ob.mk (by first | rfl | omega | assumption | exact ⟨rfl, rfl, (List.length_map _).symm⟩ | exact ⟨rfl, rfl, by rw [List.length_map]; omega⟩) ?_ | refine Br.t ?_ | refine Br.f ?_)
                      exact ⟨⟨true, h⟩, Sub.ofL _ _ (Nat.zero_le _) ⟨rfl, rfl, rfl, rfl, rfl, rfl, rfl, rfl, rfl, rfl, trivial⟩ rfl rfl⟩
                    · replace h := bif_f b63 h
                      refine vcc_sound _ _ _ tabOk (by exact rfl) ?_
                      repeat (first | refine Ob.mk (by first | rfl | omega | assumption | exact ⟨rfl, rfl, (List.length_map _).symm⟩ | exact ⟨rfl, rfl, by rw [List.length_map]; omega⟩) ?_ | refine Br.t ?_ | refine Br.f ?_)
                      repeat (first | refine Ob.mk (by first | rfl | omega | assumption | exact ⟨rfl, rfl, (List.length_map _).symm⟩ | exact ⟨rfl, rfl, by rw [List.length_map]; omega⟩) ?_ | refine Br.t ?_ | refine Br.f ?_)
                      exact ⟨⟨(a0.text.toList == (⟨#[114, 101, 108, 101, 97, 115, 101]⟩ : Str).toList), h⟩, Sub.ofL _ _ (Nat.zero_le _) ⟨rfl, rfl, rfl, rfl, rfl, rfl, rfl, rfl, rfl, rfl, trivial⟩ rfl rfl⟩
            refine WP_seq ?_
            refine vcc_sound _ _ _ tabOk (by exact rfl) ?_
            repeat (first | refine Ob.mk (by first | rfl | omega | assumption | exact ⟨rfl, rfl, (List.length_map _).symm⟩ | exact ⟨rfl, rfl, by rw [List.length_map]; omega⟩) ?_ | refine Br.t ?_ | refine Br.f ?_)
            refine vcc_sound _ _ _ tabOk (by exact rfl) ?_
            repeat (first | refine Ob.mk (by first | rfl | omega | assumption | exact ⟨rfl, rfl, (List.length_map _).symm⟩ | exact ⟨rfl, rfl, by rw [List.length_map]; omega⟩) ?_ | refine Br.t ?_ | refine Br.f ?_)
            refine Br.mk (fun b64 => ?_) (fun b64 => ?_)
            · replace h := bif_t b64 h
              refine WP_skip ?_
              repeat (first | refine Ob.mk (by first | rfl | omega | assumption | exact ⟨rfl, rfl, (List.length_map _).symm⟩ | exact ⟨rfl, rfl, by rw [List.length_map]; omega⟩) ?_ | refine Br.t ?_ | refine Br.f ?_)
              exact ⟨⟨true, h⟩, Sub.ofL _ _ (Nat.zero_le _) ⟨rfl, rfl, rfl, rfl, rfl, rfl, rfl, rfl, rfl, rfl, trivial⟩ rfl rfl⟩
            · replace h := bif_f b64 h
              refine vcc_sound _ _ _ tabOk (by exact rfl) ?_
              repeat (first | refine Ob.mk (by first | rfl | omega | assumption | exact ⟨rfl, rfl, (List.length_map _).symm⟩ | exact ⟨rfl, rfl, by rw [List.length_map]; omega⟩) ?_ | refine Br.t ?_ | refine Br.f ?_)
              repeat (first | refine Ob.mk (by first | rfl | omega | assumption | exact ⟨rfl, rfl, (List.length_map _).symm⟩ | exact ⟨rfl, rfl, by rw [List.length_map]; omega⟩) ?_ | refine Br.t ?_ | refine Br.f ?_)
              exact ⟨⟨(a0.text.toList == (⟨#[99, 114]⟩ : Str).toList), h⟩, Sub.ofL _ _ (Nat.zero_le _) ⟨rfl, rfl, rfl, rfl, rfl, rfl, rfl, rfl, rfl, rfl, trivial⟩ rfl rfl⟩
  refine vcc_sound _ _ _ tabOk (by exact rfl) ?_
  repeat (first | refine Ob.mk (by first | rfl | omega | assumption | exact ⟨rfl, rfl, (List.length_map _).symm⟩ | exact ⟨rfl, rfl, by rw [List.length_map]; omega⟩) ?_ | refine Br.t ?_ | refine Br.f ?_)
  refine Br.mk (fun b65 => ?_) (fun b65 => ?_)
  · replace h := bif_t b65 h
    repeat (first | refine Ob.mk (by first | rfl | omega | assumption | exact ⟨rfl, rfl, (List.length_map _).symm⟩ | exact ⟨rfl, rfl, by rw [List.length_map]; omega⟩) ?_ | refine Br.t ?_ | refine Br.f ?_)
    repeat (first | refine Ob.mk (by first | rfl | omega | assumption | exact ⟨rfl, rfl, (List.length_map _).symm⟩ | exact ⟨rfl, rfl, by rw [List.length_map]; omega⟩) ?_ | refine Br.t ?_ | refine Br.f ?_)
    exact ⟨⟨true, h⟩, Sub.ofL _ _ (Nat.zero_le _) ⟨rfl, rfl, rfl, rfl, rfl, rfl, trivial⟩ rfl rfl⟩
  · replace h := bif_f b65 h
    obtain ⟨c66, h⟩ := chk_some h
    obtain ⟨y67, hy67, h⟩ := bind_some h
    repeat (first | refine Ob.mk (by first | rfl | omega | assumption | exact ⟨rfl, rfl, (List.length_map _).symm⟩ | exact ⟨rfl, rfl, by rw [List.length_map]; omega⟩) ?_ | refine Br.t ?_ | refine Br.f ?_)
    refine CallD.mk _ _ (g_newelref01_Digit.ok n (byteAt a0.text 0) y67 hy67) (by exact ⟨DLe.refl _, trivial⟩) ?_
    repeat (first | refine Ob.mk (by first | rfl | omega | assumption | exact ⟨rfl, rfl, (List.length_map _).symm⟩ | exact ⟨rfl, rfl, by rw [List.length_map]; omega⟩) ?_ | refine Br.t ?_ | refine Br.f ?_)
    repeat (first | refine Ob.mk (by first | rfl | omega | assumption | exact ⟨rfl, rfl, (List.length_map _).symm⟩ | exact ⟨rfl, rfl, by rw [List.length_map]; omega⟩) ?_ | refine Br.t ?_ | refine Br.f ?_)
    exact ⟨⟨y67, h⟩, Sub.ofL _ _ (Nat.zero_le _) ⟨rfl, rfl, rfl, rfl, rfl, rfl, trivial⟩ rfl rfl⟩

end Go.Proofs.Nw.K
end
