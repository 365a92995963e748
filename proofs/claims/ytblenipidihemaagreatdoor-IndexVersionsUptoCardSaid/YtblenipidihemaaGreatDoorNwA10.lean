/- Bundle 10: NwZP2. -/
import Derived.Test.YtblenipidihemaaGreatDoorNwA9
section
/- Printed by a program of mine (pg.py): functions that may have no answer, and that the code comes to them. -/
open Go Go.RowKit Go.Proofs
set_option linter.unusedVariables false
set_option linter.unusedSimpArgs false
set_option maxHeartbeats 1000000
namespace Go.Proofs.Nw.K

/-! ### newel/newelref05.Words -/
def g_newelref05_Words.k48 (n : Nat) : Option (Int) :=
  some 0
def g_newelref05_Words.k62 (n : Nat) (x49 : Int) (rec48 : Int → Option (Int)) (c55 : Int) (c56 : Str) (c60 : Int) (c61 : Str) : Option (Int) :=
  (g_newelref05_one n (Wd.mk c55 c56) (Wd.mk c60 c61)).bind fun y63 =>
  bif (y63 != 0) then (
    some y63
  ) else (
    chk (in64 (x49 + 1)) <|
    rec48 (x49 + 1)
  )
def g_newelref05_Words.k57 (n : Nat) (a1 : (List Wd)) (x49 : Int) (rec48 : Int → Option (Int)) (c55 : Int) (c56 : Str) : Option (Int) :=
  bif (decide (x49 < (a1.length : Int))) then (
    chk (0 ≤ x49 ∧ x49 < (a1.length : Int)) <|
    g_newelref05_Words.k62 n x49 rec48 c55 c56 ((a1.getD x49.toNat zWd).kind) ((a1.getD x49.toNat zWd).text)
  ) else (
    g_newelref05_Words.k62 n x49 rec48 c55 c56 6 emp
  )
def g_newelref05_Words.k52 (n : Nat) (a0 : (List Wd)) (a1 : (List Wd)) (x49 : Int) (rec48 : Int → Option (Int)) : Option (Int) :=
  bif (decide (x49 < (a0.length : Int))) then (
    chk (0 ≤ x49 ∧ x49 < (a0.length : Int)) <|
    g_newelref05_Words.k57 n a1 x49 rec48 ((a0.getD x49.toNat zWd).kind) ((a0.getD x49.toNat zWd).text)
  ) else (
    g_newelref05_Words.k57 n a1 x49 rec48 6 emp
  )
def g_newelref05_Words.l48b (n : Nat) (a0 : (List Wd)) (a1 : (List Wd)) (rec48 : Int → Option (Int)) (x49 : Int) : Option (Int) :=
  bif (decide (x49 < (a0.length : Int))) then (
    g_newelref05_Words.k52 n a0 a1 x49 rec48
  ) else (
    bif (decide (x49 < (a1.length : Int))) then (
      g_newelref05_Words.k52 n a0 a1 x49 rec48
    ) else (
      g_newelref05_Words.k48 n
    )
  )
def g_newelref05_Words.l48 (n : Nat) (a0 : (List Wd)) (a1 : (List Wd)) : Nat → Int → Option (Int)
  | 0, _ => none
  | m + 1, x49 => g_newelref05_Words.l48b n a0 a1 (g_newelref05_Words.l48 n a0 a1 m) x49
def g_newelref05_Words (n : Nat) (a0 : (List Wd)) (a1 : (List Wd)) : Option (Int) :=
  g_newelref05_Words.l48 n a0 a1 n 0
theorem g_newelref05_Words.ok (n : Nat) (a0 : (List Wd)) (a1 : (List Wd)) (r : Int) (h : g_newelref05_Words n a0 a1 = some r) : Impl Tryz.prog 31 [.one (.tl Wd 2 encWd zWd a0), .one (.tl Wd 2 encWd zWd a1)] [.one (dint r)] := by
  refine impl_wp tabOk Tryz.func31 rfl rfl (by kernel_rfl) ?_
  unfold g_newelref05_Words at h
  refine WP_seq ?_
  refine vcc_sound _ _ _ tabOk (by exact rfl) ?_
  repeat (first | refine Ob.mk (by first | rfl | omega | assumption | exact ⟨rfl, rfl, (List.length_map _).symm⟩ | exact ⟨rfl, rfl, by rw [List.length_map]; omega⟩) ?_ | refine Br.t ?_ | refine Br.f ?_)
  refine WP_seq ?_
  refine WP_seq ?_
  refine vcc_sound _ _ _ tabOk (by exact rfl) ?_
  repeat (first | refine Ob.mk (by first | rfl | omega | assumption | exact ⟨rfl, rfl, (List.length_map _).symm⟩ | exact ⟨rfl, rfl, by rw [List.length_map]; omega⟩) ?_ | refine Br.t ?_ | refine Br.f ?_)
  refine WP_cutQ (α := {p : Unit // g_newelref05_Words.k48 n = some r}) (fun p => ofL []) (fun p => []) (WP_block (WP_loop (α := {x : Nat × Int // g_newelref05_Words.l48 n a0 a1 x.1 x.2 = some r}) (fun x => ofL [(0, .d (.tl Wd 2 encWd zWd a0)), (1, .d (.tl Wd 2 encWd zWd a1)), (5, .int x.1.2)]) (fun x => []) (fun x => x.1.1) ⟨(n, 0), h⟩ (Sub.ofL _ _ (Nat.zero_le _) ⟨rfl, rfl, rfl, rfl, rfl, rfl, trivial⟩ rfl rfl) ?_)) ?_
  rotate_left
  · rintro ⟨⟨⟩, h⟩ env st hs
    replace h : g_newelref05_Words.k48 n = some r := h
    unfold g_newelref05_Words.k48 at h
    refine WP_sub hs ?_
    try dsimp only
    refine WP_seq ?_
    refine vcc_sound _ _ _ tabOk (by exact rfl) ?_
    repeat (first | refine Ob.mk (by first | rfl | omega | assumption | exact ⟨rfl, rfl, (List.length_map _).symm⟩ | exact ⟨rfl, rfl, by rw [List.length_map]; omega⟩) ?_ | refine Br.t ?_ | refine Br.f ?_)
    refine WP_ret ?_
    obtain rfl := Option.some.inj h
    repeat (first | refine Ob.mk (by first | rfl | omega | assumption | exact ⟨rfl, rfl, (List.length_map _).symm⟩ | exact ⟨rfl, rfl, by rw [List.length_map]; omega⟩) ?_ | refine Br.t ?_ | refine Br.f ?_)
    exact ⟨DLe.refl _, trivial⟩
  rintro ⟨⟨m48, x49⟩, h⟩
  cases m48 with
  | zero => exact nomatch (show (none : Option (Int)) = some r from h)
  | succ m48 =>
    replace h : g_newelref05_Words.l48b n a0 a1 (g_newelref05_Words.l48 n a0 a1 m48) x49 = some r := h
    unfold g_newelref05_Words.l48b at h
    try dsimp only
    refine WP_seq_cut (α := {p : Unit // g_newelref05_Words.k52 n a0 a1 x49 (g_newelref05_Words.l48 n a0 a1 m48) = some r}) (fun p => ofL [(0, .d (.tl Wd 2 encWd zWd a0)), (1, .d (.tl Wd 2 encWd zWd a1)), (5, .int x49)]) (fun p => []) ?_ ?_
    rotate_left
    · rintro ⟨⟨⟩, h⟩
      replace h : g_newelref05_Words.k52 n a0 a1 x49 (g_newelref05_Words.l48 n a0 a1 m48) = some r := h
      unfold g_newelref05_Words.k52 at h
      try dsimp only
      refine WP_seq ?_
      refine WP_block ?_
      refine WP_seq ?_
      refine vcc_sound _ _ _ tabOk (by exact rfl) ?_
      repeat (first | refine Ob.mk (by first | rfl | omega | assumption | exact ⟨rfl, rfl, (List.length_map _).symm⟩ | exact ⟨rfl, rfl, by rw [List.length_map]; omega⟩) ?_ | refine Br.t ?_ | refine Br.f ?_)
      refine WP_seq_cut (α := {p : Int × Str // g_newelref05_Words.k57 n a1 x49 (g_newelref05_Words.l48 n a0 a1 m48) p.1 p.2 = some r}) (fun p => ofL [(0, .d (.tl Wd 2 encWd zWd a0)), (1, .d (.tl Wd 2 encWd zWd a1)), (5, .int x49), (6, .ptr 0 0), (7, .ptr 1 0)]) (fun p => [.box 94 ((encWd (Wd.mk p.1.1 p.1.2)).map AV.d), .box 94 ((encWd (Wd.mk 6 emp)).map AV.d)]) ?_ ?_
      rotate_left
      · rintro ⟨⟨c55, c56⟩, h⟩
        replace h : g_newelref05_Words.k57 n a1 x49 (g_newelref05_Words.l48 n a0 a1 m48) c55 c56 = some r := h
        unfold g_newelref05_Words.k57 at h
        try dsimp only
        refine WP_seq_cut (α := {p : Int × Str // g_newelref05_Words.k62 n x49 (g_newelref05_Words.l48 n a0 a1 m48) c55 c56 p.1 p.2 = some r}) (fun p => ofL [(0, .d (.tl Wd 2 encWd zWd a0)), (1, .d (.tl Wd 2 encWd zWd a1)), (5, .int x49), (6, .ptr 0 0), (7, .ptr 1 0)]) (fun p => [.box 94 ((encWd (Wd.mk c55 c56)).map AV.d), .box 94 ((encWd (Wd.mk p.1.1 p.1.2)).map AV.d)]) ?_ ?_
        rotate_left
        · rintro ⟨⟨c60, c61⟩, h⟩
          replace h : g_newelref05_Words.k62 n x49 (g_newelref05_Words.l48 n a0 a1 m48) c55 c56 c60 c61 = some r := h
          unfold g_newelref05_Words.k62 at h
          try dsimp only
          refine WP_seq ?_
          refine vcc_sound _ _ _ tabOk (by exact rfl) ?_
          obtain ⟨y63, hy63, h⟩ := bind_some h
          repeat (first | refine Ob.mk (by first | rfl | omega | assumption | exact ⟨rfl, rfl, (List.length_map _).symm⟩ | exact ⟨rfl, rfl, by rw [List.length_map]; omega⟩) ?_ | refine Br.t ?_ | refine Br.f ?_)
          refine CallD.mk _ _ (g_newelref05_one.ok n (Wd.mk c55 c56) (Wd.mk c60 c61) y63 hy63) (by exact ⟨DLe.refl _, DLe.refl _, trivial⟩) ?_
          repeat (first | refine Ob.mk (by first | rfl | omega | assumption | exact ⟨rfl, rfl, (List.length_map _).symm⟩ | exact ⟨rfl, rfl, by rw [List.length_map]; omega⟩) ?_ | refine Br.t ?_ | refine Br.f ?_)
          refine WP_seq ?_
          refine vcc_sound _ _ _ tabOk (by exact rfl) ?_
          repeat (first | refine Ob.mk (by first | rfl | omega | assumption | exact ⟨rfl, rfl, (List.length_map _).symm⟩ | exact ⟨rfl, rfl, by rw [List.length_map]; omega⟩) ?_ | refine Br.t ?_ | refine Br.f ?_)
          refine vcc_sound _ _ _ tabOk (by exact rfl) ?_
          repeat (first | refine Ob.mk (by first | rfl | omega | assumption | exact ⟨rfl, rfl, (List.length_map _).symm⟩ | exact ⟨rfl, rfl, by rw [List.length_map]; omega⟩) ?_ | refine Br.t ?_ | refine Br.f ?_)
          refine Br.mk (fun b64 => ?_) (fun b64 => ?_)
          · replace h := bif_t b64 h
            refine WP_seq ?_
            refine vcc_sound _ _ _ tabOk (by exact rfl) ?_
            repeat (first | refine Ob.mk (by first | rfl | omega | assumption | exact ⟨rfl, rfl, (List.length_map _).symm⟩ | exact ⟨rfl, rfl, by rw [List.length_map]; omega⟩) ?_ | refine Br.t ?_ | refine Br.f ?_)
            refine WP_ret ?_
            obtain rfl := Option.some.inj h
            repeat (first | refine Ob.mk (by first | rfl | omega | assumption | exact ⟨rfl, rfl, (List.length_map _).symm⟩ | exact ⟨rfl, rfl, by rw [List.length_map]; omega⟩) ?_ | refine Br.t ?_ | refine Br.f ?_)
            exact ⟨DLe.refl _, trivial⟩
          · replace h := bif_f b64 h
            refine WP_skip ?_
            refine vcc_sound _ _ _ tabOk (by exact rfl) ?_
            obtain ⟨c65, h⟩ := chk_some h
            repeat (first | refine Ob.mk (by first | rfl | omega | assumption | exact ⟨rfl, rfl, (List.length_map _).symm⟩ | exact ⟨rfl, rfl, by rw [List.length_map]; omega⟩) ?_ | refine Br.t ?_ | refine Br.f ?_)
            repeat (first | refine Ob.mk (by first | rfl | omega | assumption | exact ⟨rfl, rfl, (List.length_map _).symm⟩ | exact ⟨rfl, rfl, by rw [List.length_map]; omega⟩) ?_ | refine Br.t ?_ | refine Br.f ?_)
            exact ⟨⟨(m48, (x49 + 1)), h⟩, Nat.lt_succ_self _, Sub.ofL _ _ (Nat.zero_le _) ⟨rfl, rfl, rfl, rfl, rfl, rfl, trivial⟩ rfl rfl⟩
        refine WP_seq ?_
        refine vcc_sound _ _ _ tabOk (by exact rfl) ?_
        repeat (first | refine Ob.mk (by first | rfl | omega | assumption | exact ⟨rfl, rfl, (List.length_map _).symm⟩ | exact ⟨rfl, rfl, by rw [List.length_map]; omega⟩) ?_ | refine Br.t ?_ | refine Br.f ?_)
        refine vcc_sound _ _ _ tabOk (by exact rfl) ?_
        repeat (first | refine Ob.mk (by first | rfl | omega | assumption | exact ⟨rfl, rfl, (List.length_map _).symm⟩ | exact ⟨rfl, rfl, by rw [List.length_map]; omega⟩) ?_ | refine Br.t ?_ | refine Br.f ?_)
        refine Br.mk (fun b66 => ?_) (fun b66 => ?_)
        · replace h := bif_t b66 h
          refine vcc_sound _ _ _ tabOk (by exact rfl) ?_
          obtain ⟨c67, h⟩ := chk_some h
          repeat (first | refine Ob.mk (by first | rfl | omega | assumption | exact ⟨rfl, rfl, (List.length_map _).symm⟩ | exact ⟨rfl, rfl, by rw [List.length_map]; omega⟩) ?_ | refine Br.t ?_ | refine Br.f ?_)
          repeat (first | refine Ob.mk (by first | rfl | omega | assumption | exact ⟨rfl, rfl, (List.length_map _).symm⟩ | exact ⟨rfl, rfl, by rw [List.length_map]; omega⟩) ?_ | refine Br.t ?_ | refine Br.f ?_)
          exact ⟨⟨((a1.getD x49.toNat zWd).kind, (a1.getD x49.toNat zWd).text), h⟩, Sub.ofL _ _ (Nat.zero_le _) ⟨rfl, rfl, rfl, rfl, rfl, rfl, rfl, rfl, rfl, rfl, trivial⟩ rfl rfl⟩
        · replace h := bif_f b66 h
          refine WP_skip ?_
          repeat (first | refine Ob.mk (by first | rfl | omega | assumption | exact ⟨rfl, rfl, (List.length_map _).symm⟩ | exact ⟨rfl, rfl, by rw [List.length_map]; omega⟩) ?_ | refine Br.t ?_ | refine Br.f ?_)
          exact ⟨⟨(6, emp), h⟩, Sub.ofL _ _ (Nat.zero_le _) ⟨rfl, rfl, rfl, rfl, rfl, rfl, rfl, rfl, rfl, rfl, trivial⟩ rfl rfl⟩
      refine WP_seq ?_
      refine vcc_sound _ _ _ tabOk (by exact rfl) ?_
      repeat (first | refine Ob.mk (by first | rfl | omega | assumption | exact ⟨rfl, rfl, (List.length_map _).symm⟩ | exact ⟨rfl, rfl, by rw [List.length_map]; omega⟩) ?_ | refine Br.t ?_ | refine Br.f ?_)
      refine vcc_sound _ _ _ tabOk (by exact rfl) ?_
      repeat (first | refine Ob.mk (by first | rfl | omega | assumption | exact ⟨rfl, rfl, (List.length_map _).symm⟩ | exact ⟨rfl, rfl, by rw [List.length_map]; omega⟩) ?_ | refine Br.t ?_ | refine Br.f ?_)
      refine Br.mk (fun b68 => ?_) (fun b68 => ?_)
      · replace h := bif_t b68 h
        refine vcc_sound _ _ _ tabOk (by exact rfl) ?_
        obtain ⟨c69, h⟩ := chk_some h
        repeat (first | refine Ob.mk (by first | rfl | omega | assumption | exact ⟨rfl, rfl, (List.length_map _).symm⟩ | exact ⟨rfl, rfl, by rw [List.length_map]; omega⟩) ?_ | refine Br.t ?_ | refine Br.f ?_)
        repeat (first | refine Ob.mk (by first | rfl | omega | assumption | exact ⟨rfl, rfl, (List.length_map _).symm⟩ | exact ⟨rfl, rfl, by rw [List.length_map]; omega⟩) ?_ | refine Br.t ?_ | refine Br.f ?_)
        exact ⟨⟨((a0.getD x49.toNat zWd).kind, (a0.getD x49.toNat zWd).text), h⟩, Sub.ofL _ _ (Nat.zero_le _) ⟨rfl, rfl, rfl, rfl, rfl, rfl, rfl, rfl, rfl, rfl, trivial⟩ rfl rfl⟩
      · replace h := bif_f b68 h
        refine WP_skip ?_
        repeat (first | refine Ob.mk (by first | rfl | omega | assumption | exact ⟨rfl, rfl, (List.length_map _).symm⟩ | exact ⟨rfl, rfl, by rw [List.length_map]; omega⟩) ?_ | refine Br.t ?_ | refine Br.f ?_)
        exact ⟨⟨(6, emp), h⟩, Sub.ofL _ _ (Nat.zero_le _) ⟨rfl, rfl, rfl, rfl, rfl, rfl, rfl, rfl, rfl, rfl, trivial⟩ rfl rfl⟩
    refine WP_seq ?_
    refine vcc_sound _ _ _ tabOk (by exact rfl) ?_
    repeat (first | refine Ob.mk (by first | rfl | omega | assumption | exact ⟨rfl, rfl, (List.length_map _).symm⟩ | exact ⟨rfl, rfl, by rw [List.length_map]; omega⟩) ?_ | refine Br.t ?_ | refine Br.f ?_)
    refine Br.mk (fun b70 => ?_) (fun b70 => ?_)
    · replace h := bif_t b70 h
      repeat (first | refine Ob.mk (by first | rfl | omega | assumption | exact ⟨rfl, rfl, (List.length_map _).symm⟩ | exact ⟨rfl, rfl, by rw [List.length_map]; omega⟩) ?_ | refine Br.t ?_ | refine Br.f ?_)
      refine vcc_sound _ _ _ tabOk (by exact rfl) ?_
      repeat (first | refine Ob.mk (by first | rfl | omega | assumption | exact ⟨rfl, rfl, (List.length_map _).symm⟩ | exact ⟨rfl, rfl, by rw [List.length_map]; omega⟩) ?_ | refine Br.t ?_ | refine Br.f ?_)
      refine WP_skip ?_
      repeat (first | refine Ob.mk (by first | rfl | omega | assumption | exact ⟨rfl, rfl, (List.length_map _).symm⟩ | exact ⟨rfl, rfl, by rw [List.length_map]; omega⟩) ?_ | refine Br.t ?_ | refine Br.f ?_)
      exact ⟨⟨(), h⟩, Sub.ofL _ _ (Nat.zero_le _) ⟨rfl, rfl, rfl, rfl, rfl, rfl, trivial⟩ rfl rfl⟩
    · replace h := bif_f b70 h
      repeat (first | refine Ob.mk (by first | rfl | omega | assumption | exact ⟨rfl, rfl, (List.length_map _).symm⟩ | exact ⟨rfl, rfl, by rw [List.length_map]; omega⟩) ?_ | refine Br.t ?_ | refine Br.f ?_)
      refine vcc_sound _ _ _ tabOk (by exact rfl) ?_
      repeat (first | refine Ob.mk (by first | rfl | omega | assumption | exact ⟨rfl, rfl, (List.length_map _).symm⟩ | exact ⟨rfl, rfl, by rw [List.length_map]; omega⟩) ?_ | refine Br.t ?_ | refine Br.f ?_)
      refine Br.mk (fun b71 => ?_) (fun b71 => ?_)
      · replace h := bif_t b71 h
        refine WP_skip ?_
        repeat (first | refine Ob.mk (by first | rfl | omega | assumption | exact ⟨rfl, rfl, (List.length_map _).symm⟩ | exact ⟨rfl, rfl, by rw [List.length_map]; omega⟩) ?_ | refine Br.t ?_ | refine Br.f ?_)
        exact ⟨⟨(), h⟩, Sub.ofL _ _ (Nat.zero_le _) ⟨rfl, rfl, rfl, rfl, rfl, rfl, trivial⟩ rfl rfl⟩
      · replace h := bif_f b71 h
        refine WP_exit ?_
        repeat (first | refine Ob.mk (by first | rfl | omega | assumption | exact ⟨rfl, rfl, (List.length_map _).symm⟩ | exact ⟨rfl, rfl, by rw [List.length_map]; omega⟩) ?_ | refine Br.t ?_ | refine Br.f ?_)
        exact ⟨⟨(), h⟩, Sub.ofL _ _ (Nat.zero_le _) trivial rfl rfl⟩

/-! ### newel/newelref01.Lower -/
def g_newelref01_Lower.k61 (n : Nat) (l62 : (List Int)) (v63 : Nat) : Option (Str) :=
  some (bytesS l62)
def g_newelref01_Lower.k76 (n : Nat) (l64 : (List Int)) (v65 : Nat) (x66 : Int) (rec61 : (List Int) → Nat → Int → Option (Str)) (x75 : Int) : Option (Str) :=
  chk (room (l64 ++ [x75]).length 1) <|
  chk (in64 (x66 + 1)) <|
  rec61 (l64 ++ [x75]) (v65 + 1) (x66 + 1)
def g_newelref01_Lower.k81 (n : Nat) (a0 : Str) (l64 : (List Int)) (v65 : Nat) (x66 : Int) (rec61 : (List Int) → Nat → Int → Option (Str)) (x80 : Bool) : Option (Str) :=
  bif x80 then (
    g_newelref01_Lower.k76 n l64 v65 x66 rec61 (IntKind.wrap .u8 ((byteAt a0 x66.toNat) + 32))
  ) else (
    g_newelref01_Lower.k76 n l64 v65 x66 rec61 (byteAt a0 x66.toNat)
  )
def g_newelref01_Lower.l61b (n : Nat) (a0 : Str) (rec61 : (List Int) → Nat → Int → Option (Str)) (l64 : (List Int)) (v65 : Nat) (x66 : Int) : Option (Str) :=
  bif (decide (x66 < (a0.size : Int))) then (
    chk (0 ≤ x66 ∧ x66 < (a0.size : Int)) <|
    bif (decide ((byteAt a0 x66.toNat) ≥ 65)) then (
      g_newelref01_Lower.k81 n a0 l64 v65 x66 rec61 (decide ((byteAt a0 x66.toNat) ≤ 90))
    ) else (
      g_newelref01_Lower.k81 n a0 l64 v65 x66 rec61 false
    )
  ) else (
    g_newelref01_Lower.k61 n l64 v65
  )
def g_newelref01_Lower.l61 (n : Nat) (a0 : Str) : Nat → (List Int) → Nat → Int → Option (Str)
  | 0, _, _, _ => none
  | m + 1, l64, v65, x66 => g_newelref01_Lower.l61b n a0 (g_newelref01_Lower.l61 n a0 m) l64 v65 x66
def g_newelref01_Lower (n : Nat) (a0 : Str) : Option (Str) :=
  g_newelref01_Lower.l61 n a0 n ([] : List Int) 0 0
theorem g_newelref01_Lower.ok (n : Nat) (a0 : Str) (r : Str) (h : g_newelref01_Lower n a0 = some r) : Impl Tryz.prog 58 [.one (dstr a0)] [.one (dstr r)] := by
  refine impl_wp tabOk Tryz.func58 rfl rfl (by kernel_rfl) ?_
  unfold g_newelref01_Lower at h
  refine WP_seq ?_
  refine vcc_sound _ _ _ tabOk (by exact rfl) ?_
  repeat (first | refine Ob.mk (by first | rfl | omega | assumption | exact ⟨rfl, rfl, (List.length_map _).symm⟩ | exact ⟨rfl, rfl, by rw [List.length_map]; omega⟩) ?_ | refine Br.t ?_ | refine Br.f ?_)
  refine WP_seq ?_
  refine vcc_sound _ _ _ tabOk (by exact rfl) ?_
  repeat (first | refine Ob.mk (by first | rfl | omega | assumption | exact ⟨rfl, rfl, (List.length_map _).symm⟩ | exact ⟨rfl, rfl, by rw [List.length_map]; omega⟩) ?_ | refine Br.t ?_ | refine Br.f ?_)
  refine WP_seq ?_
  refine WP_seq ?_
  refine vcc_sound _ _ _ tabOk (by exact rfl) ?_
  repeat (first | refine Ob.mk (by first | rfl | omega | assumption | exact ⟨rfl, rfl, (List.length_map _).symm⟩ | exact ⟨rfl, rfl, by rw [List.length_map]; omega⟩) ?_ | refine Br.t ?_ | refine Br.f ?_)
  refine WP_cutQ (α := {p : (List Int) × Nat // g_newelref01_Lower.k61 n p.1 p.2 = some r}) (fun p => ofL [(3, .h 0 p.1.2 0 p.1.1.length)]) (fun p => [.row p.1.2 5 1 (p.1.1.map byteRow)]) (WP_block (WP_loop (α := {x : Nat × (List Int) × Nat × Int // g_newelref01_Lower.l61 n a0 x.1 x.2.1 x.2.2.1 x.2.2.2 = some r}) (fun x => ofL [(0, .str a0), (3, .h 0 x.1.2.2.1 0 x.1.2.1.length), (4, .int x.1.2.2.2)]) (fun x => [.row x.1.2.2.1 5 1 (x.1.2.1.map byteRow)]) (fun x => x.1.1) ⟨(n, ([] : List Int), 0, 0), h⟩ ((Sub.nilsRow 3 5 1 rfl).trans (Sub.ofL _ _ (Nat.zero_le _) ⟨rfl, rfl, rfl, rfl, rfl, rfl, trivial⟩ rfl rfl)) ?_)) ?_
  rotate_left
  · rintro ⟨⟨l62, v63⟩, h⟩ env st hs
    replace h : g_newelref01_Lower.k61 n l62 v63 = some r := h
    unfold g_newelref01_Lower.k61 at h
    refine WP_sub hs ?_
    try dsimp only
    refine WP_seq ?_
    refine vcc_sound _ _ _ tabOk (by exact rfl) ?_
    repeat (first | refine Ob.mk (by first | rfl | omega | assumption | exact ⟨rfl, rfl, (List.length_map _).symm⟩ | exact ⟨rfl, rfl, by rw [List.length_map]; omega⟩) ?_ | refine Br.t ?_ | refine Br.f ?_)
    refine BytesK.mk l62 ?_ ?_
    · exact (Ob.mk ⟨rfl, rfl, (List.length_map _).symm⟩ rfl)
    repeat (first | refine Ob.mk (by first | rfl | omega | assumption | exact ⟨rfl, rfl, (List.length_map _).symm⟩ | exact ⟨rfl, rfl, by rw [List.length_map]; omega⟩) ?_ | refine Br.t ?_ | refine Br.f ?_)
    refine WP_ret ?_
    obtain rfl := Option.some.inj h
    repeat (first | refine Ob.mk (by first | rfl | omega | assumption | exact ⟨rfl, rfl, (List.length_map _).symm⟩ | exact ⟨rfl, rfl, by rw [List.length_map]; omega⟩) ?_ | refine Br.t ?_ | refine Br.f ?_)
    exact ⟨DLe.refl _, trivial⟩
  rintro ⟨⟨m61, l64, v65, x66⟩, h⟩
  cases m61 with
  | zero => exact nomatch (show (none : Option (Str)) = some r from h)
  | succ m61 =>
    replace h : g_newelref01_Lower.l61b n a0 (g_newelref01_Lower.l61 n a0 m61) l64 v65 x66 = some r := h
    unfold g_newelref01_Lower.l61b at h
    try dsimp only
    refine WP_seq ?_
    refine WP_seq ?_
    refine vcc_sound _ _ _ tabOk (by exact rfl) ?_
    repeat (first | refine Ob.mk (by first | rfl | omega | assumption | exact ⟨rfl, rfl, (List.length_map _).symm⟩ | exact ⟨rfl, rfl, by rw [List.length_map]; omega⟩) ?_ | refine Br.t ?_ | refine Br.f ?_)
    refine vcc_sound _ _ _ tabOk (by exact rfl) ?_
    repeat (first | refine Ob.mk (by first | rfl | omega | assumption | exact ⟨rfl, rfl, (List.length_map _).symm⟩ | exact ⟨rfl, rfl, by rw [List.length_map]; omega⟩) ?_ | refine Br.t ?_ | refine Br.f ?_)
    refine Br.mk (fun b68 => ?_) (fun b68 => ?_)
    · replace h := bif_t b68 h
      refine WP_skip ?_
      refine WP_seq ?_
      refine WP_block ?_
      refine WP_seq ?_
      refine vcc_sound _ _ _ tabOk (by exact rfl) ?_
      obtain ⟨c69, h⟩ := chk_some h
      repeat (first | refine Ob.mk (by first | rfl | omega | assumption | exact ⟨rfl, rfl, (List.length_map _).symm⟩ | exact ⟨rfl, rfl, by rw [List.length_map]; omega⟩) ?_ | refine Br.t ?_ | refine Br.f ?_)
      refine WP_seq_cut (α := {p : Int // g_newelref01_Lower.k76 n l64 v65 x66 (g_newelref01_Lower.l61 n a0 m61) p = some r}) (fun p => ofL [(0, .str a0), (3, .h 0 v65 0 l64.length), (4, .int x66), (5, .byte p.1)]) (fun p => [.row v65 5 1 (l64.map byteRow)]) ?_ ?_
      rotate_left
      · rintro ⟨x75, h⟩
        replace h : g_newelref01_Lower.k76 n l64 v65 x66 (g_newelref01_Lower.l61 n a0 m61) x75 = some r := h
        unfold g_newelref01_Lower.k76 at h
        try dsimp only
        refine vcc_sound _ _ _ tabOk (by exact rfl) ?_
        repeat (first | refine Ob.mk (by first | rfl | omega | assumption | exact ⟨rfl, rfl, (List.length_map _).symm⟩ | exact ⟨rfl, rfl, by rw [List.length_map]; omega⟩) ?_ | refine Br.t ?_ | refine Br.f ?_)
        refine NewS.ty byteRow (0 : Int) [x75] rfl ?_
        obtain ⟨c77, h⟩ := chk_some h
        repeat (first | refine Ob.mk (by first | rfl | omega | assumption | exact ⟨rfl, rfl, (List.length_map _).symm⟩ | exact ⟨rfl, rfl, by rw [List.length_map]; omega⟩) ?_ | refine Br.t ?_ | refine Br.f ?_)
        refine AppK.ty byteRow l64 [x75] rfl rfl ?_ c77 ?_
        · exact rfl
        repeat (first | refine Ob.mk (by first | rfl | omega | assumption | exact ⟨rfl, rfl, (List.length_map _).symm⟩ | exact ⟨rfl, rfl, by rw [List.length_map]; omega⟩) ?_ | refine Br.t ?_ | refine Br.f ?_)
        refine vcc_sound _ _ _ tabOk (by exact rfl) ?_
        obtain ⟨c78, h⟩ := chk_some h
        repeat (first | refine Ob.mk (by first | rfl | omega | assumption | exact ⟨rfl, rfl, (List.length_map _).symm⟩ | exact ⟨rfl, rfl, by rw [List.length_map]; omega⟩) ?_ | refine Br.t ?_ | refine Br.f ?_)
        repeat (first | refine Ob.mk (by first | rfl | omega | assumption | exact ⟨rfl, rfl, (List.length_map _).symm⟩ | exact ⟨rfl, rfl, by rw [List.length_map]; omega⟩) ?_ | refine Br.t ?_ | refine Br.f ?_)
        exact ⟨⟨(m61, (l64 ++ [x75]), (v65 + 1), (x66 + 1)), h⟩, Nat.lt_succ_self _, Sub.ofL _ _ (Nat.zero_le _) ⟨rfl, rfl, rfl, rfl, rfl, rfl, trivial⟩ rfl rfl⟩
      refine WP_seq_cut (α := {p : Bool // g_newelref01_Lower.k81 n a0 l64 v65 x66 (g_newelref01_Lower.l61 n a0 m61) p = some r}) (fun p => ofL [(0, .str a0), (3, .h 0 v65 0 l64.length), (4, .int x66), (5, .byte (byteAt a0 x66.toNat)), (20, .bool p.1)]) (fun p => [.row v65 5 1 (l64.map byteRow)]) ?_ ?_
      rotate_left
      · rintro ⟨x80, h⟩
        replace h : g_newelref01_Lower.k81 n a0 l64 v65 x66 (g_newelref01_Lower.l61 n a0 m61) x80 = some r := h
        unfold g_newelref01_Lower.k81 at h
        try dsimp only
        refine vcc_sound _ _ _ tabOk (by exact rfl) ?_
        repeat (first | refine Ob.mk (by first | rfl | omega | assumption | exact ⟨rfl, rfl, (List.length_map _).symm⟩ | exact ⟨rfl, rfl, by rw [List.length_map]; omega⟩) ?_ | refine Br.t ?_ | refine Br.f ?_)
        refine Br.mk (fun b82 => ?_) (fun b82 => ?_)
        · replace h := bif_t b82 h
          refine vcc_sound _ _ _ tabOk (by exact rfl) ?_
          repeat (first | refine Ob.mk (by first | rfl | omega | assumption | exact ⟨rfl, rfl, (List.length_map _).symm⟩ | exact ⟨rfl, rfl, by rw [List.length_map]; omega⟩) ?_ | refine Br.t ?_ | refine Br.f ?_)
          repeat (first | refine Ob.mk (by first | rfl | omega | assumption | exact ⟨rfl, rfl, (List.length_map _).symm⟩ | exact ⟨rfl, rfl, by rw [List.length_map]; omega⟩) ?_ | refine Br.t ?_ | refine Br.f ?_)
          exact ⟨⟨(IntKind.wrap .u8 ((byteAt a0 x66.toNat) + 32)), h⟩, Sub.ofL _ _ (Nat.zero_le _) ⟨rfl, rfl, rfl, rfl, rfl, rfl, rfl, rfl, trivial⟩ rfl rfl⟩
        · replace h := bif_f b82 h
          refine WP_skip ?_
          repeat (first | refine Ob.mk (by first | rfl | omega | assumption | exact ⟨rfl, rfl, (List.length_map _).symm⟩ | exact ⟨rfl, rfl, by rw [List.length_map]; omega⟩) ?_ | refine Br.t ?_ | refine Br.f ?_)
          exact ⟨⟨(byteAt a0 x66.toNat), h⟩, Sub.ofL _ _ (Nat.zero_le _) ⟨rfl, rfl, rfl, rfl, rfl, rfl, rfl, rfl, trivial⟩ rfl rfl⟩
      refine vcc_sound _ _ _ tabOk (by exact rfl) ?_
      repeat (first | refine Ob.mk (by first | rfl | omega | assumption | exact ⟨rfl, rfl, (List.length_map _).symm⟩ | exact ⟨rfl, rfl, by rw [List.length_map]; omega⟩) ?_ | refine Br.t ?_ | refine Br.f ?_)
      refine Br.mk (fun b83 => ?_) (fun b83 => ?_)
      · replace h := bif_t b83 h
        repeat (first | refine Ob.mk (by first | rfl | omega | assumption | exact ⟨rfl, rfl, (List.length_map _).symm⟩ | exact ⟨rfl, rfl, by rw [List.length_map]; omega⟩) ?_ | refine Br.t ?_ | refine Br.f ?_)
        repeat (first | refine Ob.mk (by first | rfl | omega | assumption | exact ⟨rfl, rfl, (List.length_map _).symm⟩ | exact ⟨rfl, rfl, by rw [List.length_map]; omega⟩) ?_ | refine Br.t ?_ | refine Br.f ?_)
        exact ⟨⟨decide ((byteAt a0 x66.toNat) ≤ 90), h⟩, Sub.ofL _ _ (Nat.zero_le _) ⟨rfl, rfl, rfl, rfl, rfl, rfl, rfl, rfl, rfl, rfl, trivial⟩ rfl rfl⟩
      · replace h := bif_f b83 h
        repeat (first | refine Ob.mk (by first | rfl | omega | assumption | exact ⟨rfl, rfl, (List.length_map _).symm⟩ | exact ⟨rfl, rfl, by rw [List.length_map]; omega⟩) ?_ | refine Br.t ?_ | refine Br.f ?_)
        repeat (first | refine Ob.mk (by first | rfl | omega | assumption | exact ⟨rfl, rfl, (List.length_map _).symm⟩ | exact ⟨rfl, rfl, by rw [List.length_map]; omega⟩) ?_ | refine Br.t ?_ | refine Br.f ?_)
        exact ⟨⟨false, h⟩, Sub.ofL _ _ (Nat.zero_le _) ⟨rfl, rfl, rfl, rfl, rfl, rfl, rfl, rfl, rfl, rfl, trivial⟩ rfl rfl⟩
    · replace h := bif_f b68 h
      refine WP_exit ?_
      repeat (first | refine Ob.mk (by first | rfl | omega | assumption | exact ⟨rfl, rfl, (List.length_map _).symm⟩ | exact ⟨rfl, rfl, by rw [List.length_map]; omega⟩) ?_ | refine Br.t ?_ | refine Br.f ?_)
      exact ⟨⟨(l64, v65), h⟩, Sub.ofL _ _ (Nat.zero_le _) ⟨rfl, rfl, trivial⟩ rfl rfl⟩

/-! ### newel/newelref05.parts -/
def g_newelref05_parts.k166 (n : Nat) (l167 : (List Pt)) (v168 : Nat) : Option ((List Pt)) :=
  some l167
def g_newelref05_parts.k219 (n : Nat) (a0 : Str) (x171 : Int) (rec166 : (List Pt) → Nat → Int → Option ((List Pt))) (l217 : (List Pt)) (v218 : Nat) : Option ((List Pt)) :=
  chk (in64 ((l217.length : Int) - 1)) <|
  chk (0 ≤ ((l217.length : Int) - 1) ∧ ((l217.length : Int) - 1) < (l217.length : Int)) <|
  chk (in64 (x171 + 1)) <|
  chk (0 ≤ x171 ∧ 0 ≤ (x171 + 1) ∧ x171 ≤ (x171 + 1) ∧ (x171 + 1) ≤ (a0.size : Int)) <|
  chk (textOk (((l217.getD (((l217.length : Int) - 1).toNat) zPt).text).size + (a0.extract x171.toNat ((x171 + 1).toNat)).size)) <|
  chk (in64 (x171 + 1)) <|
  rec166 (l217.set (((l217.length : Int) - 1).toNat) (Pt.mk ((l217.getD (((l217.length : Int) - 1).toNat) zPt).text ++ (a0.extract x171.toNat ((x171 + 1).toNat))) ((l217.getD (((l217.length : Int) - 1).toNat) zPt).dash) ((l217.getD (((l217.length : Int) - 1).toNat) zPt).number))) v218 (x171 + 1)
def g_newelref05_parts.k234 (n : Nat) (a0 : Str) (l169 : (List Pt)) (v170 : Nat) (x171 : Int) (rec166 : (List Pt) → Nat → Int → Option ((List Pt))) (x233 : Bool) : Option ((List Pt)) :=
  bif x233 then (
    chk (0 ≤ x171 ∧ x171 < (a0.size : Int)) <|
    (g_newelref01_Digit n (byteAt a0 x171.toNat)).bind fun y237 =>
    chk (((l169.length : Int) - 1).toNat < l169.length) <|
    chk (room ((l169.set (((l169.length : Int) - 1).toNat) (Pt.mk ((l169.getD (((l169.length : Int) - 1).toNat) zPt).text) ((l169.getD (((l169.length : Int) - 1).toNat) zPt).dash) y237)) ++ [(Pt.mk emp true false)]).length 24) <|
    g_newelref05_parts.k219 n a0 x171 rec166 ((l169.set (((l169.length : Int) - 1).toNat) (Pt.mk ((l169.getD (((l169.length : Int) - 1).toNat) zPt).text) ((l169.getD (((l169.length : Int) - 1).toNat) zPt).dash) y237)) ++ [(Pt.mk emp true false)]) (v170 + 1)
  ) else (
    g_newelref05_parts.k219 n a0 x171 rec166 l169 v170
  )
def g_newelref05_parts.k191 (n : Nat) (a0 : Str) (l169 : (List Pt)) (v170 : Nat) (x171 : Int) (rec166 : (List Pt) → Nat → Int → Option ((List Pt))) (x190 : Bool) : Option ((List Pt)) :=
  bif x190 then (
    chk (0 ≤ x171 ∧ x171 < (a0.size : Int)) <|
    chk (room (l169 ++ [(Pt.mk emp ((byteAt a0 x171.toNat) == 45) false)]).length 24) <|
    chk (in64 (x171 + 1)) <|
    rec166 (l169 ++ [(Pt.mk emp ((byteAt a0 x171.toNat) == 45) false)]) (v170 + 1) (x171 + 1)
  ) else (
    chk (((l169.length : Int) - 1).toNat < l169.length) <|
    bif (!(((l169.getD (((l169.length : Int) - 1).toNat) zPt).text).toList == emp.toList)) then (
      chk (in64 ((((l169.getD (((l169.length : Int) - 1).toNat) zPt).text).size : Int) - 1)) <|
      chk (0 ≤ ((((l169.getD (((l169.length : Int) - 1).toNat) zPt).text).size : Int) - 1) ∧ ((((l169.getD (((l169.length : Int) - 1).toNat) zPt).text).size : Int) - 1) < (((l169.getD (((l169.length : Int) - 1).toNat) zPt).text).size : Int)) <|
      (g_newelref01_Digit n (byteAt ((l169.getD (((l169.length : Int) - 1).toNat) zPt).text) (((((l169.getD (((l169.length : Int) - 1).toNat) zPt).text).size : Int) - 1).toNat))).bind fun y244 =>
      chk (0 ≤ x171 ∧ x171 < (a0.size : Int)) <|
      (g_newelref01_Digit n (byteAt a0 x171.toNat)).bind fun y246 =>
      g_newelref05_parts.k234 n a0 l169 v170 x171 rec166 (!(y244 == y246))
    ) else (
      g_newelref05_parts.k234 n a0 l169 v170 x171 rec166 false
    )
  )
def g_newelref05_parts.l166b (n : Nat) (a0 : Str) (rec166 : (List Pt) → Nat → Int → Option ((List Pt))) (l169 : (List Pt)) (v170 : Nat) (x171 : Int) : Option ((List Pt)) :=
  bif (decide (x171 < (a0.size : Int))) then (
    chk (in64 ((l169.length : Int) - 1)) <|
    chk (0 ≤ ((l169.length : Int) - 1) ∧ ((l169.length : Int) - 1) < (l169.length : Int)) <|
    chk (0 ≤ x171 ∧ x171 < (a0.size : Int)) <|
    bif ((byteAt a0 x171.toNat) == 46) then (
      g_newelref05_parts.k191 n a0 l169 v170 x171 rec166 true
    ) else (
      chk (0 ≤ x171 ∧ x171 < (a0.size : Int)) <|
      g_newelref05_parts.k191 n a0 l169 v170 x171 rec166 ((byteAt a0 x171.toNat) == 45)
    )
  ) else (
    g_newelref05_parts.k166 n l169 v170
  )
def g_newelref05_parts.l166 (n : Nat) (a0 : Str) : Nat → (List Pt) → Nat → Int → Option ((List Pt))
  | 0, _, _, _ => none
  | m + 1, l169, v170, x171 => g_newelref05_parts.l166b n a0 (g_newelref05_parts.l166 n a0 m) l169 v170 x171
def g_newelref05_parts (n : Nat) (a0 : Str) : Option ((List Pt)) :=
  g_newelref05_parts.l166 n a0 n [(Pt.mk emp false false)] 0 0
theorem g_newelref05_parts.ok (n : Nat) (a0 : Str) (r : (List Pt)) (h : g_newelref05_parts n a0 = some r) : Impl Tryz.prog 57 [.one (dstr a0)] [.one (.tl Pt 3 encPt zPt r)] := by
  refine impl_wp tabOk Tryz.func57 rfl rfl (by kernel_rfl) ?_
  unfold g_newelref05_parts at h
  refine WP_seq ?_
  refine vcc_sound _ _ _ tabOk (by exact rfl) ?_
  repeat (first | refine Ob.mk (by first | rfl | omega | assumption | exact ⟨rfl, rfl, (List.length_map _).symm⟩ | exact ⟨rfl, rfl, by rw [List.length_map]; omega⟩) ?_ | refine Br.t ?_ | refine Br.f ?_)
  refine WP_seq ?_
  refine vcc_sound _ _ _ tabOk (by exact rfl) ?_
  repeat (first | refine Ob.mk (by first | rfl | omega | assumption | exact ⟨rfl, rfl, (List.length_map _).symm⟩ | exact ⟨rfl, rfl, by rw [List.length_map]; omega⟩) ?_ | refine Br.t ?_ | refine Br.f ?_)
  refine NewS.ownt encPt [(Pt.mk emp false false)] rfl ?_
  repeat (first | refine Ob.mk (by first | rfl | omega | assumption | exact ⟨rfl, rfl, (List.length_map _).symm⟩ | exact ⟨rfl, rfl, by rw [List.length_map]; omega⟩) ?_ | refine Br.t ?_ | refine Br.f ?_)
  refine WP_seq ?_
  refine WP_seq ?_
  refine vcc_sound _ _ _ tabOk (by exact rfl) ?_
  repeat (first | refine Ob.mk (by first | rfl | omega | assumption | exact ⟨rfl, rfl, (List.length_map _).symm⟩ | exact ⟨rfl, rfl, by rw [List.length_map]; omega⟩) ?_ | refine Br.t ?_ | refine Br.f ?_)
  refine WP_cutQ (α := {p : (List Pt) × Nat // g_newelref05_parts.k166 n p.1 p.2 = some r}) (fun p => ofL [(3, .h 0 p.1.2 0 p.1.1.length)]) (fun p => [.row p.1.2 101 3 (p.1.1.map encPt)]) (WP_block (WP_loop (α := {x : Nat × (List Pt) × Nat × Int // g_newelref05_parts.l166 n a0 x.1 x.2.1 x.2.2.1 x.2.2.2 = some r}) (fun x => ofL [(0, .str a0), (3, .h 0 x.1.2.2.1 0 x.1.2.1.length), (4, .int x.1.2.2.2)]) (fun x => [.row x.1.2.2.1 101 3 (x.1.2.1.map encPt)]) (fun x => x.1.1) ⟨(n, [(Pt.mk emp false false)], 0, 0), h⟩ (Sub.ofL _ _ (Nat.zero_le _) ⟨rfl, rfl, rfl, rfl, rfl, rfl, trivial⟩ rfl rfl) ?_)) ?_
  rotate_left
  · rintro ⟨⟨l167, v168⟩, h⟩ env st hs
    replace h : g_newelref05_parts.k166 n l167 v168 = some r := h
    unfold g_newelref05_parts.k166 at h
    refine WP_sub hs ?_
    try dsimp only
    refine WP_seq ?_
    refine vcc_sound _ _ _ tabOk (by exact rfl) ?_
    repeat (first | refine Ob.mk (by first | rfl | omega | assumption | exact ⟨rfl, rfl, (List.length_map _).symm⟩ | exact ⟨rfl, rfl, by rw [List.length_map]; omega⟩) ?_ | refine Br.t ?_ | refine Br.f ?_)
    refine WP_ret ?_
    obtain rfl := Option.some.inj h
    repeat (first | refine Ob.mk (by first | rfl | omega | assumption | exact ⟨rfl, rfl, (List.length_map _).symm⟩ | exact ⟨rfl, rfl, by rw [List.length_map]; omega⟩) ?_ | refine Br.t ?_ | refine Br.f ?_)
    exact ⟨DLe.tl zPt rfl, trivial⟩
  rintro ⟨⟨m166, l169, v170, x171⟩, h⟩
  cases m166 with
  | zero => exact nomatch (show (none : Option ((List Pt))) = some r from h)
  | succ m166 =>
    replace h : g_newelref05_parts.l166b n a0 (g_newelref05_parts.l166 n a0 m166) l169 v170 x171 = some r := h
    unfold g_newelref05_parts.l166b at h
    try dsimp only
    refine WP_seq ?_
    refine WP_seq ?_
    refine vcc_sound _ _ _ tabOk (by exact rfl) ?_
    repeat (first | refine Ob.mk (by first | rfl | omega | assumption | exact ⟨rfl, rfl, (List.length_map _).symm⟩ | exact ⟨rfl, rfl, by rw [List.length_map]; omega⟩) ?_ | refine Br.t ?_ | refine Br.f ?_)
    refine vcc_sound _ _ _ tabOk (by exact rfl) ?_
    repeat (first | refine Ob.mk (by first | rfl | omega | assumption | exact ⟨rfl, rfl, (List.length_map _).symm⟩ | exact ⟨rfl, rfl, by rw [List.length_map]; omega⟩) ?_ | refine Br.t ?_ | refine Br.f ?_)
    refine Br.mk (fun b173 => ?_) (fun b173 => ?_)
    · replace h := bif_t b173 h
      refine WP_skip ?_
      refine WP_seq ?_
      refine WP_block ?_
      refine WP_seq ?_
      refine vcc_sound _ _ _ tabOk (by exact rfl) ?_
      obtain ⟨c174, h⟩ := chk_some h
      obtain ⟨c175, h⟩ := chk_some h
      repeat (first | refine Ob.mk (by first | rfl | omega | assumption | exact ⟨rfl, rfl, (List.length_map _).symm⟩ | exact ⟨rfl, rfl, by rw [List.length_map]; omega⟩) ?_ | refine Br.t ?_ | refine Br.f ?_)
      refine WP_seq ?_
      refine WP_seq_cut (α := {p : Bool // g_newelref05_parts.k191 n a0 l169 v170 x171 (g_newelref05_parts.l166 n a0 m166) p = some r}) (fun p => ofL [(0, .str a0), (3, .h 0 v170 0 l169.length), (4, .int x171), (5, .ep 0 v170 (((l169.length : Int) - 1).toNat) 0), (28, .bool p.1)]) (fun p => [.row v170 101 3 (l169.map encPt)]) ?_ ?_
      rotate_left
      · rintro ⟨x190, h⟩
        replace h : g_newelref05_parts.k191 n a0 l169 v170 x171 (g_newelref05_parts.l166 n a0 m166) x190 = some r := h
        unfold g_newelref05_parts.k191 at h
        try dsimp only
        refine vcc_sound _ _ _ tabOk (by exact rfl) ?_
        repeat (first | refine Ob.mk (by first | rfl | omega | assumption | exact ⟨rfl, rfl, (List.length_map _).symm⟩ | exact ⟨rfl, rfl, by rw [List.length_map]; omega⟩) ?_ | refine Br.t ?_ | refine Br.f ?_)
        refine Br.mk (fun b192 => ?_) (fun b192 => ?_)
        · replace h := bif_t b192 h
          refine WP_seq ?_
          refine vcc_sound _ _ _ tabOk (by exact rfl) ?_
          obtain ⟨c193, h⟩ := chk_some h
          repeat (first | refine Ob.mk (by first | rfl | omega | assumption | exact ⟨rfl, rfl, (List.length_map _).symm⟩ | exact ⟨rfl, rfl, by rw [List.length_map]; omega⟩) ?_ | refine Br.t ?_ | refine Br.f ?_)
          refine NewS.ty encPt zPt [(Pt.mk emp ((byteAt a0 x171.toNat) == 45) false)] rfl ?_
          obtain ⟨c194, h⟩ := chk_some h
          repeat (first | refine Ob.mk (by first | rfl | omega | assumption | exact ⟨rfl, rfl, (List.length_map _).symm⟩ | exact ⟨rfl, rfl, by rw [List.length_map]; omega⟩) ?_ | refine Br.t ?_ | refine Br.f ?_)
          refine AppK.ty encPt l169 [(Pt.mk emp ((byteAt a0 x171.toNat) == 45) false)] rfl rfl ?_ c194 ?_
          · exact rfl
          repeat (first | refine Ob.mk (by first | rfl | omega | assumption | exact ⟨rfl, rfl, (List.length_map _).symm⟩ | exact ⟨rfl, rfl, by rw [List.length_map]; omega⟩) ?_ | refine Br.t ?_ | refine Br.f ?_)
          refine WP_exit ?_
          refine vcc_sound _ _ _ tabOk (by exact rfl) ?_
          obtain ⟨c195, h⟩ := chk_some h
          repeat (first | refine Ob.mk (by first | rfl | omega | assumption | exact ⟨rfl, rfl, (List.length_map _).symm⟩ | exact ⟨rfl, rfl, by rw [List.length_map]; omega⟩) ?_ | refine Br.t ?_ | refine Br.f ?_)
          repeat (first | refine Ob.mk (by first | rfl | omega | assumption | exact ⟨rfl, rfl, (List.length_map _).symm⟩ | exact ⟨rfl, rfl, by rw [List.length_map]; omega⟩) ?_ | refine Br.t ?_ | refine Br.f ?_)
          exact ⟨⟨(m166, (l169 ++ [(Pt.mk emp ((byteAt a0 x171.toNat) == 45) false)]), (v170 + 1), (x171 + 1)), h⟩, Nat.lt_succ_self _, Sub.ofL _ _ (Nat.zero_le _) ⟨rfl, rfl, rfl, rfl, rfl, rfl, trivial⟩ rfl rfl⟩
        · replace h := bif_f b192 h
          refine WP_skip ?_
          refine WP_seq_cut (α := {p : (List Pt) × Nat // g_newelref05_parts.k219 n a0 x171 (g_newelref05_parts.l166 n a0 m166) p.1 p.2 = some r}) (fun p => ofL [(0, .str a0), (3, .h 0 p.1.2 0 p.1.1.length), (4, .int x171)]) (fun p => [.row p.1.2 101 3 (p.1.1.map encPt)]) ?_ ?_
          rotate_left
          · rintro ⟨⟨l217, v218⟩, h⟩
            replace h : g_newelref05_parts.k219 n a0 x171 (g_newelref05_parts.l166 n a0 m166) l217 v218 = some r := h
            unfold g_newelref05_parts.k219 at h
            try dsimp only
            refine WP_seq ?_
            refine vcc_sound _ _ _ tabOk (by exact rfl) ?_
            obtain ⟨c220, h⟩ := chk_some h
            obtain ⟨c221, h⟩ := chk_some h
            repeat (first | refine Ob.mk (by first | rfl | omega | assumption | exact ⟨rfl, rfl, (List.length_map _).symm⟩ | exact ⟨rfl, rfl, by rw [List.length_map]; omega⟩) ?_ | refine Br.t ?_ | refine Br.f ?_)
            refine cdraw2 tabOk 13 (by kernel_rfl) ?_
            repeat (first | refine Ob.mk (by first | rfl | omega | assumption | exact ⟨rfl, rfl, (List.length_map _).symm⟩ | exact ⟨rfl, rfl, by rw [List.length_map]; omega⟩) ?_ | refine Br.t ?_ | refine Br.f ?_)
            refine RowAt.ty zPt (by first | omega | (simp only [List.length_set]; omega)) ?_
            obtain ⟨c222, h⟩ := chk_some h
            obtain ⟨c223, h⟩ := chk_some h
            obtain ⟨c224, h⟩ := chk_some h
            repeat (first | refine Ob.mk (by first | rfl | omega | assumption | exact ⟨rfl, rfl, (List.length_map _).symm⟩ | exact ⟨rfl, rfl, by rw [List.length_map]; omega⟩) ?_ | refine Br.t ?_ | refine Br.f ?_)
            refine RowSet.ty encPt l217 zPt (Pt.mk ((l217.getD (((l217.length : Int) - 1).toNat) zPt).text ++ (a0.extract x171.toNat ((x171 + 1).toNat))) ((l217.getD (((l217.length : Int) - 1).toNat) zPt).dash) ((l217.getD (((l217.length : Int) - 1).toNat) zPt).number)) rfl (by first | omega | (simp only [List.length_set]; omega)) rfl ?_
            repeat (first | refine Ob.mk (by first | rfl | omega | assumption | exact ⟨rfl, rfl, (List.length_map _).symm⟩ | exact ⟨rfl, rfl, by rw [List.length_map]; omega⟩) ?_ | refine Br.t ?_ | refine Br.f ?_)
            refine vcc_sound _ _ _ tabOk (by exact rfl) ?_
            obtain ⟨c225, h⟩ := chk_some h
            repeat (first | refine Ob.mk (by first | rfl | omega | assumption | exact ⟨rfl, rfl, (List.length_map _).symm⟩ | exact ⟨rfl, rfl, by rw [List.length_map]; omega⟩) ?_ | refine Br.t ?_ | refine Br.f ?_)
            repeat (first | refine Ob.mk (by first | rfl | omega | assumption | exact ⟨rfl, rfl, (List.length_map _).symm⟩ | exact ⟨rfl, rfl, by rw [List.length_map]; omega⟩) ?_ | refine Br.t ?_ | refine Br.f ?_)
            exact ⟨⟨(m166, (l217.set (((l217.length : Int) - 1).toNat) (Pt.mk ((l217.getD (((l217.length : Int) - 1).toNat) zPt).text ++ (a0.extract x171.toNat ((x171 + 1).toNat))) ((l217.getD (((l217.length : Int) - 1).toNat) zPt).dash) ((l217.getD (((l217.length : Int) - 1).toNat) zPt).number))), v218, (x171 + 1)), h⟩, Nat.lt_succ_self _, Sub.ofL _ _ (Nat.zero_le _) ⟨rfl, rfl, congrArg (AV.h _ _ 0) (by first | omega | simp), rfl, rfl, rfl, trivial⟩ rfl rfl⟩
          refine WP_seq_cut (α := {p : Bool // g_newelref05_parts.k234 n a0 l169 v170 x171 (g_newelref05_parts.l166 n a0 m166) p = some r}) (fun p => ofL [(0, .str a0), (3, .h 0 v170 0 l169.length), (4, .int x171), (5, .ep 0 v170 (((l169.length : Int) - 1).toNat) 0), (60, .bool p.1)]) (fun p => [.row v170 101 3 (l169.map encPt)]) ?_ ?_
          rotate_left
          · rintro ⟨x233, h⟩
            replace h : g_newelref05_parts.k234 n a0 l169 v170 x171 (g_newelref05_parts.l166 n a0 m166) x233 = some r := h
            unfold g_newelref05_parts.k234 at h
            try dsimp only
            refine vcc_sound _ _ _ tabOk (by exact rfl) ?_
            repeat (first | refine Ob.mk (by first | rfl | omega | assumption | exact ⟨rfl, rfl, (List.length_map _).symm⟩ | exact ⟨rfl, rfl, by rw [List.length_map]; omega⟩) ?_ | refine Br.t ?_ | refine Br.f ?_)
            refine Br.mk (fun b235 => ?_) (fun b235 => ?_)
            · replace h := bif_t b235 h
              refine WP_seq ?_
              refine vcc_sound _ _ _ tabOk (by exact rfl) ?_
              obtain ⟨c236, h⟩ := chk_some h
              obtain ⟨y237, hy237, h⟩ := bind_some h
              repeat (first | refine Ob.mk (by first | rfl | omega | assumption | exact ⟨rfl, rfl, (List.length_map _).symm⟩ | exact ⟨rfl, rfl, by rw [List.length_map]; omega⟩) ?_ | refine Br.t ?_ | refine Br.f ?_)
              refine CallD.mk _ _ (g_newelref01_Digit.ok n (byteAt a0 x171.toNat) y237 hy237) (by exact ⟨DLe.refl _, trivial⟩) ?_
              obtain ⟨c238, h⟩ := chk_some h
              repeat (first | refine Ob.mk (by first | rfl | omega | assumption | exact ⟨rfl, rfl, (List.length_map _).symm⟩ | exact ⟨rfl, rfl, by rw [List.length_map]; omega⟩) ?_ | refine Br.t ?_ | refine Br.f ?_)
              refine RowSet.ty encPt l169 zPt (Pt.mk ((l169.getD (((l169.length : Int) - 1).toNat) zPt).text) ((l169.getD (((l169.length : Int) - 1).toNat) zPt).dash) y237) rfl (by first | omega | (simp only [List.length_set]; omega)) rfl ?_
              repeat (first | refine Ob.mk (by first | rfl | omega | assumption | exact ⟨rfl, rfl, (List.length_map _).symm⟩ | exact ⟨rfl, rfl, by rw [List.length_map]; omega⟩) ?_ | refine Br.t ?_ | refine Br.f ?_)
              refine vcc_sound _ _ _ tabOk (by exact rfl) ?_
              repeat (first | refine Ob.mk (by first | rfl | omega | assumption | exact ⟨rfl, rfl, (List.length_map _).symm⟩ | exact ⟨rfl, rfl, by rw [List.length_map]; omega⟩) ?_ | refine Br.t ?_ | refine Br.f ?_)
              refine NewS.ty encPt zPt [(Pt.mk emp true false)] rfl ?_
              obtain ⟨c239, h⟩ := chk_some h
              repeat (first | refine Ob.mk (by first | rfl | omega | assumption | exact ⟨rfl, rfl, (List.length_map _).symm⟩ | exact ⟨rfl, rfl, by rw [List.length_map]; omega⟩) ?_ | refine Br.t ?_ | refine Br.f ?_)
              refine AppK.ty encPt (l169.set (((l169.length : Int) - 1).toNat) (Pt.mk ((l169.getD (((l169.length : Int) - 1).toNat) zPt).text) ((l169.getD (((l169.length : Int) - 1).toNat) zPt).dash) y237)) [(Pt.mk emp true false)] rfl (by first | omega | simp) ?_ c239 ?_
              · exact rfl
              repeat (first | refine Ob.mk (by first | rfl | omega | assumption | exact ⟨rfl, rfl, (List.length_map _).symm⟩ | exact ⟨rfl, rfl, by rw [List.length_map]; omega⟩) ?_ | refine Br.t ?_ | refine Br.f ?_)
              repeat (first | refine Ob.mk (by first | rfl | omega | assumption | exact ⟨rfl, rfl, (List.length_map _).symm⟩ | exact ⟨rfl, rfl, by rw [List.length_map]; omega⟩) ?_ | refine Br.t ?_ | refine Br.f ?_)
              exact ⟨⟨(((l169.set (((l169.length : Int) - 1).toNat) (Pt.mk ((l169.getD (((l169.length : Int) - 1).toNat) zPt).text) ((l169.getD (((l169.length : Int) - 1).toNat) zPt).dash) y237)) ++ [(Pt.mk emp true false)]), (v170 + 1)), h⟩, Sub.ofL _ _ (Nat.zero_le _) ⟨rfl, rfl, rfl, rfl, rfl, rfl, trivial⟩ rfl rfl⟩
            · replace h := bif_f b235 h
              refine WP_skip ?_
              repeat (first | refine Ob.mk (by first | rfl | omega | assumption | exact ⟨rfl, rfl, (List.length_map _).symm⟩ | exact ⟨rfl, rfl, by rw [List.length_map]; omega⟩) ?_ | refine Br.t ?_ | refine Br.f ?_)
              exact ⟨⟨(l169, v170), h⟩, Sub.ofL _ _ (Nat.zero_le _) ⟨rfl, rfl, rfl, rfl, rfl, rfl, trivial⟩ rfl rfl⟩
          refine cdraw1 tabOk (by kernel_rfl) ?_
          obtain ⟨c240, h⟩ := chk_some h
          repeat (first | refine Ob.mk (by first | rfl | omega | assumption | exact ⟨rfl, rfl, (List.length_map _).symm⟩ | exact ⟨rfl, rfl, by rw [List.length_map]; omega⟩) ?_ | refine Br.t ?_ | refine Br.f ?_)
          refine RowAt.ty zPt (by first | omega | (simp only [List.length_set]; omega)) ?_
          repeat (first | refine Ob.mk (by first | rfl | omega | assumption | exact ⟨rfl, rfl, (List.length_map _).symm⟩ | exact ⟨rfl, rfl, by rw [List.length_map]; omega⟩) ?_ | refine Br.t ?_ | refine Br.f ?_)
          refine Br.mk (fun b241 => ?_) (fun b241 => ?_)
          · replace h := bif_t b241 h
            repeat (first | refine Ob.mk (by first | rfl | omega | assumption | exact ⟨rfl, rfl, (List.length_map _).symm⟩ | exact ⟨rfl, rfl, by rw [List.length_map]; omega⟩) ?_ | refine Br.t ?_ | refine Br.f ?_)
            refine RowAt.ty zPt (by first | omega | (simp only [List.length_set]; omega)) ?_
            repeat (first | refine Ob.mk (by first | rfl | omega | assumption | exact ⟨rfl, rfl, (List.length_map _).symm⟩ | exact ⟨rfl, rfl, by rw [List.length_map]; omega⟩) ?_ | refine Br.t ?_ | refine Br.f ?_)
            refine RowAt.ty zPt (by first | omega | (simp only [List.length_set]; omega)) ?_
            obtain ⟨c242, h⟩ := chk_some h
            obtain ⟨c243, h⟩ := chk_some h
            obtain ⟨y244, hy244, h⟩ := bind_some h
            repeat (first | refine Ob.mk (by first | rfl | omega | assumption | exact ⟨rfl, rfl, (List.length_map _).symm⟩ | exact ⟨rfl, rfl, by rw [List.length_map]; omega⟩) ?_ | refine Br.t ?_ | refine Br.f ?_)
            refine CallD.mk _ _ (g_newelref01_Digit.ok n (byteAt ((l169.getD (((l169.length : Int) - 1).toNat) zPt).text) (((((l169.getD (((l169.length : Int) - 1).toNat) zPt).text).size : Int) - 1).toNat)) y244 hy244) (by exact ⟨DLe.refl _, trivial⟩) ?_
            obtain ⟨c245, h⟩ := chk_some h
            obtain ⟨y246, hy246, h⟩ := bind_some h
            repeat (first | refine Ob.mk (by first | rfl | omega | assumption | exact ⟨rfl, rfl, (List.length_map _).symm⟩ | exact ⟨rfl, rfl, by rw [List.length_map]; omega⟩) ?_ | refine Br.t ?_ | refine Br.f ?_)
            refine CallD.mk _ _ (g_newelref01_Digit.ok n (byteAt a0 x171.toNat) y246 hy246) (by exact ⟨DLe.refl _, trivial⟩) ?_
            repeat (first | refine Ob.mk (by first | rfl | omega | assumption | exact ⟨rfl, rfl, (List.length_map _).symm⟩ | exact ⟨rfl, rfl, by rw [List.length_map]; omega⟩) ?_ | refine Br.t ?_ | refine Br.f ?_)
            repeat (first | refine Ob.mk (by first | rfl | omega | assumption | exact ⟨rfl, rfl, (List.length_map _).symm⟩ | exact ⟨rfl, rfl, by rw [List.length_map]; omega⟩) ?_ | refine Br.t ?_ | refine Br.f ?_)
            exact ⟨⟨(!(y244 == y246)), h⟩, Sub.ofL _ _ (Nat.zero_le _) ⟨rfl, rfl, rfl, rfl, rfl, rfl, rfl, rfl, rfl, rfl, trivial⟩ rfl rfl⟩
          · replace h := bif_f b241 h
            repeat (first | refine Ob.mk (by first | rfl | omega | assumption | exact ⟨rfl, rfl, (List.length_map _).symm⟩ | exact ⟨rfl, rfl, by rw [List.length_map]; omega⟩) ?_ | refine Br.t ?_ | refine Br.f ?_)
            repeat (first | refine Ob.mk (by first | rfl | omega | assumption | exact ⟨rfl, rfl, (List.length_map _).symm⟩ | exact ⟨rfl, rfl, by rw [List.length_map]; omega⟩) ?_ | refine Br.t ?_ | refine Br.f ?_)
            exact ⟨⟨false, h⟩, Sub.ofL _ _ (Nat.zero_le _) ⟨rfl, rfl, rfl, rfl, rfl, rfl, rfl, rfl, rfl, rfl, trivial⟩ rfl rfl⟩
      refine vcc_sound _ _ _ tabOk (by exact rfl) ?_
      obtain ⟨c247, h⟩ := chk_some h
      repeat (first | refine Ob.mk (by first | rfl | omega | assumption | exact ⟨rfl, rfl, (List.length_map _).symm⟩ | exact ⟨rfl, rfl, by rw [List.length_map]; omega⟩) ?_ | refine Br.t ?_ | refine Br.f ?_)
      refine Br.mk (fun b248 => ?_) (fun b248 => ?_)
      · replace h := bif_t b248 h
        repeat (first | refine Ob.mk (by first | rfl | omega | assumption | exact ⟨rfl, rfl, (List.length_map _).symm⟩ | exact ⟨rfl, rfl, by rw [List.length_map]; omega⟩) ?_ | refine Br.t ?_ | refine Br.f ?_)
        repeat (first | refine Ob.mk (by first | rfl | omega | assumption | exact ⟨rfl, rfl, (List.length_map _).symm⟩ | exact ⟨rfl, rfl, by rw [List.length_map]; omega⟩) ?_ | refine Br.t ?_ | refine Br.f ?_)
        exact ⟨⟨true, h⟩, Sub.ofL _ _ (Nat.zero_le _) ⟨rfl, rfl, rfl, rfl, rfl, rfl, rfl, rfl, rfl, rfl, trivial⟩ rfl rfl⟩
      · replace h := bif_f b248 h
        obtain ⟨c249, h⟩ := chk_some h
        repeat (first | refine Ob.mk (by first | rfl | omega | assumption | exact ⟨rfl, rfl, (List.length_map _).symm⟩ | exact ⟨rfl, rfl, by rw [List.length_map]; omega⟩) ?_ | refine Br.t ?_ | refine Br.f ?_)
        repeat (first | refine Ob.mk (by first | rfl | omega | assumption | exact ⟨rfl, rfl, (List.length_map _).symm⟩ | exact ⟨rfl, rfl, by rw [List.length_map]; omega⟩) ?_ | refine Br.t ?_ | refine Br.f ?_)
        exact ⟨⟨((byteAt a0 x171.toNat) == 45), h⟩, Sub.ofL _ _ (Nat.zero_le _) ⟨rfl, rfl, rfl, rfl, rfl, rfl, rfl, rfl, rfl, rfl, trivial⟩ rfl rfl⟩
    · replace h := bif_f b173 h
      refine WP_exit ?_
      repeat (first | refine Ob.mk (by first | rfl | omega | assumption | exact ⟨rfl, rfl, (List.length_map _).symm⟩ | exact ⟨rfl, rfl, by rw [List.length_map]; omega⟩) ?_ | refine Br.t ?_ | refine Br.f ?_)
      exact ⟨⟨(l169, v170), h⟩, Sub.ofL _ _ (Nat.zero_le _) ⟨rfl, rfl, trivial⟩ rfl rfl⟩

/-! ### newel/newelref05.Split -/
def g_newelref05_Split.k63 (n : Nat) (x64 : (List Wd)) : Option ((List Wd)) :=
  some x64
def g_newelref05_Split.k79 (n : Nat) (x65 : (List Wd)) (x66 : Int) (rec63 : (List Wd) → Int → Option ((List Wd))) (y70 : Wd) : Option ((List Wd)) :=
  chk (room ([y70] ++ x65).length 24) <|
  chk (in64 (x66 - 1)) <|
  rec63 ([y70] ++ x65) (x66 - 1)
def g_newelref05_Split.k76 (n : Nat) (x65 : (List Wd)) (x66 : Int) (rec63 : (List Wd) → Int → Option ((List Wd))) (y70 : Wd) (x75 : Bool) : Option ((List Wd)) :=
  bif (y70.kind == 6) then (
    bif (!x75) then (
      chk (in64 (x66 - 1)) <|
      rec63 x65 (x66 - 1)
    ) else (
      g_newelref05_Split.k79 n x65 x66 rec63 y70
    )
  ) else (
    g_newelref05_Split.k79 n x65 x66 rec63 y70
  )
def g_newelref05_Split.l63b (n : Nat) (y2 : (List Pt)) (rec63 : (List Wd) → Int → Option ((List Wd))) (x65 : (List Wd)) (x66 : Int) : Option ((List Wd)) :=
  bif (decide (x66 ≥ 0)) then (
    chk (0 ≤ x66 ∧ x66 < (y2.length : Int)) <|
    (g_newelref05_word n (y2.getD x66.toNat zPt)).bind fun y70 =>
    bif (decide ((x65.length : Int) > 0)) then (
      chk (0 ≤ (0 : Int) ∧ 0 < (x65.length : Int)) <|
      bif ((x65.getD 0 zWd).kind == 6) then (
        g_newelref05_Split.k76 n x65 x66 rec63 y70 true
      ) else (
        chk (0 ≤ (0 : Int) ∧ 0 < (x65.length : Int)) <|
        g_newelref05_Split.k76 n x65 x66 rec63 y70 ((x65.getD 0 zWd).kind == 10)
      )
    ) else (
      g_newelref05_Split.k76 n x65 x66 rec63 y70 false
    )
  ) else (
    g_newelref05_Split.k63 n x65
  )
def g_newelref05_Split.l63 (n : Nat) (y2 : (List Pt)) : Nat → (List Wd) → Int → Option ((List Wd))
  | 0, _, _ => none
  | m + 1, x65, x66 => g_newelref05_Split.l63b n y2 (g_newelref05_Split.l63 n y2 m) x65 x66
def g_newelref05_Split (n : Nat) (a0 : Str) : Option ((List Wd)) :=
  (g_newelref01_Lower n a0).bind fun y1 =>
  (g_newelref05_parts n y1).bind fun y2 =>
  chk (in64 ((y2.length : Int) - 1)) <|
  g_newelref05_Split.l63 n y2 n ([] : List Wd) ((y2.length : Int) - 1)
theorem g_newelref05_Split.ok (n : Nat) (a0 : Str) (r : (List Wd)) (h : g_newelref05_Split n a0 = some r) : Impl Tryz.prog 32 [.one (dstr a0)] [.one (.tl Wd 2 encWd zWd r)] := by
  refine impl_wp tabOk Tryz.func32 rfl rfl (by kernel_rfl) ?_
  unfold g_newelref05_Split at h
  refine WP_seq ?_
  refine vcc_sound _ _ _ tabOk (by exact rfl) ?_
  repeat (first | refine Ob.mk (by first | rfl | omega | assumption | exact ⟨rfl, rfl, (List.length_map _).symm⟩ | exact ⟨rfl, rfl, by rw [List.length_map]; omega⟩) ?_ | refine Br.t ?_ | refine Br.f ?_)
  refine WP_seq ?_
  refine vcc_sound _ _ _ tabOk (by exact rfl) ?_
  obtain ⟨y1, hy1, h⟩ := bind_some h
  repeat (first | refine Ob.mk (by first | rfl | omega | assumption | exact ⟨rfl, rfl, (List.length_map _).symm⟩ | exact ⟨rfl, rfl, by rw [List.length_map]; omega⟩) ?_ | refine Br.t ?_ | refine Br.f ?_)
  refine CallD.mk _ _ (g_newelref01_Lower.ok n a0 y1 hy1) (by exact ⟨DLe.refl _, trivial⟩) ?_
  obtain ⟨y2, hy2, h⟩ := bind_some h
  repeat (first | refine Ob.mk (by first | rfl | omega | assumption | exact ⟨rfl, rfl, (List.length_map _).symm⟩ | exact ⟨rfl, rfl, by rw [List.length_map]; omega⟩) ?_ | refine Br.t ?_ | refine Br.f ?_)
  refine CallD.mk _ _ (g_newelref05_parts.ok n y1 y2 hy2) (by exact ⟨DLe.refl _, trivial⟩) ?_
  repeat (first | refine Ob.mk (by first | rfl | omega | assumption | exact ⟨rfl, rfl, (List.length_map _).symm⟩ | exact ⟨rfl, rfl, by rw [List.length_map]; omega⟩) ?_ | refine Br.t ?_ | refine Br.f ?_)
  refine WP_seq ?_
  refine vcc_sound _ _ _ tabOk (by exact rfl) ?_
  repeat (first | refine Ob.mk (by first | rfl | omega | assumption | exact ⟨rfl, rfl, (List.length_map _).symm⟩ | exact ⟨rfl, rfl, by rw [List.length_map]; omega⟩) ?_ | refine Br.t ?_ | refine Br.f ?_)
  refine WP_seq ?_
  refine WP_seq ?_
  refine vcc_sound _ _ _ tabOk (by exact rfl) ?_
  obtain ⟨c3, h⟩ := chk_some h
  repeat (first | refine Ob.mk (by first | rfl | omega | assumption | exact ⟨rfl, rfl, (List.length_map _).symm⟩ | exact ⟨rfl, rfl, by rw [List.length_map]; omega⟩) ?_ | refine Br.t ?_ | refine Br.f ?_)
  refine WP_cutQ (α := {p : (List Wd) // g_newelref05_Split.k63 n p = some r}) (fun p => ofL [(4, .d (.tl Wd 2 encWd zWd p.1))]) (fun p => []) (WP_block (WP_loop (α := {x : Nat × (List Wd) × Int // g_newelref05_Split.l63 n y2 x.1 x.2.1 x.2.2 = some r}) (fun x => ofL [(3, .d (.tl Pt 3 encPt zPt y2)), (4, .d (.tl Wd 2 encWd zWd x.1.2.1)), (5, .int x.1.2.2)]) (fun x => []) (fun x => x.1.1) ⟨(n, ([] : List Wd), ((y2.length : Int) - 1)), h⟩ ((Sub.le 4 rfl (DLe.nils zWd)).trans (Sub.ofL _ _ (Nat.zero_le _) ⟨rfl, rfl, rfl, rfl, rfl, rfl, trivial⟩ rfl rfl)) ?_)) ?_
  rotate_left
  · rintro ⟨x64, h⟩ env st hs
    replace h : g_newelref05_Split.k63 n x64 = some r := h
    unfold g_newelref05_Split.k63 at h
    refine WP_sub hs ?_
    try dsimp only
    refine WP_seq ?_
    refine vcc_sound _ _ _ tabOk (by exact rfl) ?_
    repeat (first | refine Ob.mk (by first | rfl | omega | assumption | exact ⟨rfl, rfl, (List.length_map _).symm⟩ | exact ⟨rfl, rfl, by rw [List.length_map]; omega⟩) ?_ | refine Br.t ?_ | refine Br.f ?_)
    refine WP_ret ?_
    obtain rfl := Option.some.inj h
    repeat (first | refine Ob.mk (by first | rfl | omega | assumption | exact ⟨rfl, rfl, (List.length_map _).symm⟩ | exact ⟨rfl, rfl, by rw [List.length_map]; omega⟩) ?_ | refine Br.t ?_ | refine Br.f ?_)
    exact ⟨DLe.refl _, trivial⟩
  rintro ⟨⟨m63, x65, x66⟩, h⟩
  cases m63 with
  | zero => exact nomatch (show (none : Option ((List Wd))) = some r from h)
  | succ m63 =>
    replace h : g_newelref05_Split.l63b n y2 (g_newelref05_Split.l63 n y2 m63) x65 x66 = some r := h
    unfold g_newelref05_Split.l63b at h
    try dsimp only
    refine WP_seq ?_
    refine WP_seq ?_
    refine vcc_sound _ _ _ tabOk (by exact rfl) ?_
    repeat (first | refine Ob.mk (by first | rfl | omega | assumption | exact ⟨rfl, rfl, (List.length_map _).symm⟩ | exact ⟨rfl, rfl, by rw [List.length_map]; omega⟩) ?_ | refine Br.t ?_ | refine Br.f ?_)
    refine vcc_sound _ _ _ tabOk (by exact rfl) ?_
    repeat (first | refine Ob.mk (by first | rfl | omega | assumption | exact ⟨rfl, rfl, (List.length_map _).symm⟩ | exact ⟨rfl, rfl, by rw [List.length_map]; omega⟩) ?_ | refine Br.t ?_ | refine Br.f ?_)
    refine Br.mk (fun b68 => ?_) (fun b68 => ?_)
    · replace h := bif_t b68 h
      refine WP_skip ?_
      refine WP_seq ?_
      refine WP_block ?_
      refine WP_seq ?_
      refine vcc_sound _ _ _ tabOk (by exact rfl) ?_
      obtain ⟨c69, h⟩ := chk_some h
      obtain ⟨y70, hy70, h⟩ := bind_some h
      repeat (first | refine Ob.mk (by first | rfl | omega | assumption | exact ⟨rfl, rfl, (List.length_map _).symm⟩ | exact ⟨rfl, rfl, by rw [List.length_map]; omega⟩) ?_ | refine Br.t ?_ | refine Br.f ?_)
      refine CallD.mk _ _ (g_newelref05_word.ok n (y2.getD x66.toNat zPt) y70 hy70) (by exact ⟨DLe.refl _, trivial⟩) ?_
      repeat (first | refine Ob.mk (by first | rfl | omega | assumption | exact ⟨rfl, rfl, (List.length_map _).symm⟩ | exact ⟨rfl, rfl, by rw [List.length_map]; omega⟩) ?_ | refine Br.t ?_ | refine Br.f ?_)
      refine WP_seq_cut (α := {p : Bool // g_newelref05_Split.k76 n x65 x66 (g_newelref05_Split.l63 n y2 m63) y70 p = some r}) (fun p => ofL [(3, .d (.tl Pt 3 encPt zPt y2)), (4, .d (.tl Wd 2 encWd zWd x65)), (5, .int x66), (6, .ptr 0 0), (7, .bool p.1)]) (fun p => [.box 94 ((encWd y70).map AV.d)]) ?_ ?_
      rotate_left
      · rintro ⟨x75, h⟩
        replace h : g_newelref05_Split.k76 n x65 x66 (g_newelref05_Split.l63 n y2 m63) y70 x75 = some r := h
        unfold g_newelref05_Split.k76 at h
        try dsimp only
        refine WP_seq_cut (α := {p : Unit // g_newelref05_Split.k79 n x65 x66 (g_newelref05_Split.l63 n y2 m63) y70 = some r}) (fun p => ofL [(3, .d (.tl Pt 3 encPt zPt y2)), (4, .d (.tl Wd 2 encWd zWd x65)), (5, .int x66), (6, .ptr 0 0)]) (fun p => [.box 94 ((encWd y70).map AV.d)]) ?_ ?_
        rotate_left
        · rintro ⟨⟨⟩, h⟩
          replace h : g_newelref05_Split.k79 n x65 x66 (g_newelref05_Split.l63 n y2 m63) y70 = some r := h
          unfold g_newelref05_Split.k79 at h
          try dsimp only
          refine vcc_sound _ _ _ tabOk (by exact rfl) ?_
          repeat (first | refine Ob.mk (by first | rfl | omega | assumption | exact ⟨rfl, rfl, (List.length_map _).symm⟩ | exact ⟨rfl, rfl, by rw [List.length_map]; omega⟩) ?_ | refine Br.t ?_ | refine Br.f ?_)
          refine NewS.ownt encWd [y70] rfl ?_
          obtain ⟨c80, h⟩ := chk_some h
          repeat (first | refine Ob.mk (by first | rfl | omega | assumption | exact ⟨rfl, rfl, (List.length_map _).symm⟩ | exact ⟨rfl, rfl, by rw [List.length_map]; omega⟩) ?_ | refine Br.t ?_ | refine Br.f ?_)
          refine AppK.ty encWd [y70] x65 rfl rfl ?_ c80 ?_
          · exact rfl
          repeat (first | refine Ob.mk (by first | rfl | omega | assumption | exact ⟨rfl, rfl, (List.length_map _).symm⟩ | exact ⟨rfl, rfl, by rw [List.length_map]; omega⟩) ?_ | refine Br.t ?_ | refine Br.f ?_)
          refine vcc_sound _ _ _ tabOk (by exact rfl) ?_
          obtain ⟨c81, h⟩ := chk_some h
          repeat (first | refine Ob.mk (by first | rfl | omega | assumption | exact ⟨rfl, rfl, (List.length_map _).symm⟩ | exact ⟨rfl, rfl, by rw [List.length_map]; omega⟩) ?_ | refine Br.t ?_ | refine Br.f ?_)
          repeat (first | refine Ob.mk (by first | rfl | omega | assumption | exact ⟨rfl, rfl, (List.length_map _).symm⟩ | exact ⟨rfl, rfl, by rw [List.length_map]; omega⟩) ?_ | refine Br.t ?_ | refine Br.f ?_)
          exact ⟨⟨(m63, ([y70] ++ x65), (x66 - 1)), h⟩, Nat.lt_succ_self _, (Sub.shutT (s := 1) (k := (0 + 1)) (n := ([y70] ++ x65).length) (e := 94) (sz := 2) 4 encWd zWd ([y70] ++ x65) rfl rfl rfl).trans (Sub.ofL _ _ (Nat.zero_le _) ⟨rfl, rfl, rfl, rfl, rfl, rfl, trivial⟩ rfl rfl)⟩
        refine WP_seq ?_
        refine vcc_sound _ _ _ tabOk (by exact rfl) ?_
        repeat (first | refine Ob.mk (by first | rfl | omega | assumption | exact ⟨rfl, rfl, (List.length_map _).symm⟩ | exact ⟨rfl, rfl, by rw [List.length_map]; omega⟩) ?_ | refine Br.t ?_ | refine Br.f ?_)
        refine Br.mk (fun b82 => ?_) (fun b82 => ?_)
        · replace h := bif_t b82 h
          repeat (first | refine Ob.mk (by first | rfl | omega | assumption | exact ⟨rfl, rfl, (List.length_map _).symm⟩ | exact ⟨rfl, rfl, by rw [List.length_map]; omega⟩) ?_ | refine Br.t ?_ | refine Br.f ?_)
          refine vcc_sound _ _ _ tabOk (by exact rfl) ?_
          repeat (first | refine Ob.mk (by first | rfl | omega | assumption | exact ⟨rfl, rfl, (List.length_map _).symm⟩ | exact ⟨rfl, rfl, by rw [List.length_map]; omega⟩) ?_ | refine Br.t ?_ | refine Br.f ?_)
          refine Br.mk (fun b83 => ?_) (fun b83 => ?_)
          · replace h := bif_t b83 h
            refine WP_exit ?_
            refine vcc_sound _ _ _ tabOk (by exact rfl) ?_
            obtain ⟨c84, h⟩ := chk_some h
            repeat (first | refine Ob.mk (by first | rfl | omega | assumption | exact ⟨rfl, rfl, (List.length_map _).symm⟩ | exact ⟨rfl, rfl, by rw [List.length_map]; omega⟩) ?_ | refine Br.t ?_ | refine Br.f ?_)
            repeat (first | refine Ob.mk (by first | rfl | omega | assumption | exact ⟨rfl, rfl, (List.length_map _).symm⟩ | exact ⟨rfl, rfl, by rw [List.length_map]; omega⟩) ?_ | refine Br.t ?_ | refine Br.f ?_)
            exact ⟨⟨(m63, x65, (x66 - 1)), h⟩, Nat.lt_succ_self _, Sub.ofL _ _ (Nat.zero_le _) ⟨rfl, rfl, rfl, rfl, rfl, rfl, trivial⟩ rfl rfl⟩
          · replace h := bif_f b83 h
            refine WP_skip ?_
            repeat (first | refine Ob.mk (by first | rfl | omega | assumption | exact ⟨rfl, rfl, (List.length_map _).symm⟩ | exact ⟨rfl, rfl, by rw [List.length_map]; omega⟩) ?_ | refine Br.t ?_ | refine Br.f ?_)
            exact ⟨⟨(), h⟩, Sub.ofL _ _ (Nat.zero_le _) ⟨rfl, rfl, rfl, rfl, rfl, rfl, rfl, rfl, trivial⟩ rfl rfl⟩
        · replace h := bif_f b82 h
          repeat (first | refine Ob.mk (by first | rfl | omega | assumption | exact ⟨rfl, rfl, (List.length_map _).symm⟩ | exact ⟨rfl, rfl, by rw [List.length_map]; omega⟩) ?_ | refine Br.t ?_ | refine Br.f ?_)
          refine vcc_sound _ _ _ tabOk (by exact rfl) ?_
          repeat (first | refine Ob.mk (by first | rfl | omega | assumption | exact ⟨rfl, rfl, (List.length_map _).symm⟩ | exact ⟨rfl, rfl, by rw [List.length_map]; omega⟩) ?_ | refine Br.t ?_ | refine Br.f ?_)
          refine WP_skip ?_
          repeat (first | refine Ob.mk (by first | rfl | omega | assumption | exact ⟨rfl, rfl, (List.length_map _).symm⟩ | exact ⟨rfl, rfl, by rw [List.length_map]; omega⟩) ?_ | refine Br.t ?_ | refine Br.f ?_)
          exact ⟨⟨(), h⟩, Sub.ofL _ _ (Nat.zero_le _) ⟨rfl, rfl, rfl, rfl, rfl, rfl, rfl, rfl, trivial⟩ rfl rfl⟩
      refine vcc_sound _ _ _ tabOk (by exact rfl) ?_
      repeat (first | refine Ob.mk (by first | rfl | omega | assumption | exact ⟨rfl, rfl, (List.length_map _).symm⟩ | exact ⟨rfl, rfl, by rw [List.length_map]; omega⟩) ?_ | refine Br.t ?_ | refine Br.f ?_)
      refine Br.mk (fun b85 => ?_) (fun b85 => ?_)
      · replace h := bif_t b85 h
        obtain ⟨c86, h⟩ := chk_some h
        repeat (first | refine Ob.mk (by first | rfl | omega | assumption | exact ⟨rfl, rfl, (List.length_map _).symm⟩ | exact ⟨rfl, rfl, by rw [List.length_map]; omega⟩) ?_ | refine Br.t ?_ | refine Br.f ?_)
        refine Br.mk (fun b87 => ?_) (fun b87 => ?_)
        · replace h := bif_t b87 h
          repeat (first | refine Ob.mk (by first | rfl | omega | assumption | exact ⟨rfl, rfl, (List.length_map _).symm⟩ | exact ⟨rfl, rfl, by rw [List.length_map]; omega⟩) ?_ | refine Br.t ?_ | refine Br.f ?_)
          repeat (first | refine Ob.mk (by first | rfl | omega | assumption | exact ⟨rfl, rfl, (List.length_map _).symm⟩ | exact ⟨rfl, rfl, by rw [List.length_map]; omega⟩) ?_ | refine Br.t ?_ | refine Br.f ?_)
          exact ⟨⟨true, h⟩, Sub.ofL _ _ (Nat.zero_le _) ⟨rfl, rfl, rfl, rfl, rfl, rfl, rfl, rfl, rfl, rfl, trivial⟩ rfl rfl⟩
        · replace h := bif_f b87 h
          obtain ⟨c88, h⟩ := chk_some h
          repeat (first | refine Ob.mk (by first | rfl | omega | assumption | exact ⟨rfl, rfl, (List.length_map _).symm⟩ | exact ⟨rfl, rfl, by rw [List.length_map]; omega⟩) ?_ | refine Br.t ?_ | refine Br.f ?_)
          repeat (first | refine Ob.mk (by first | rfl | omega | assumption | exact ⟨rfl, rfl, (List.length_map _).symm⟩ | exact ⟨rfl, rfl, by rw [List.length_map]; omega⟩) ?_ | refine Br.t ?_ | refine Br.f ?_)
          exact ⟨⟨((x65.getD 0 zWd).kind == 10), h⟩, Sub.ofL _ _ (Nat.zero_le _) ⟨rfl, rfl, rfl, rfl, rfl, rfl, rfl, rfl, rfl, rfl, trivial⟩ rfl rfl⟩
      · replace h := bif_f b85 h
        repeat (first | refine Ob.mk (by first | rfl | omega | assumption | exact ⟨rfl, rfl, (List.length_map _).symm⟩ | exact ⟨rfl, rfl, by rw [List.length_map]; omega⟩) ?_ | refine Br.t ?_ | refine Br.f ?_)
        repeat (first | refine Ob.mk (by first | rfl | omega | assumption | exact ⟨rfl, rfl, (List.length_map _).symm⟩ | exact ⟨rfl, rfl, by rw [List.length_map]; omega⟩) ?_ | refine Br.t ?_ | refine Br.f ?_)
        exact ⟨⟨false, h⟩, Sub.ofL _ _ (Nat.zero_le _) ⟨rfl, rfl, rfl, rfl, rfl, rfl, rfl, rfl, rfl, rfl, trivial⟩ rfl rfl⟩
    · replace h := bif_f b68 h
      refine WP_exit ?_
      repeat (first | refine Ob.mk (by first | rfl | omega | assumption | exact ⟨rfl, rfl, (List.length_map _).symm⟩ | exact ⟨rfl, rfl, by rw [List.length_map]; omega⟩) ?_ | refine Br.t ?_ | refine Br.f ?_)
      exact ⟨⟨x65, h⟩, Sub.ofL _ _ (Nat.zero_le _) ⟨rfl, rfl, trivial⟩ rfl rfl⟩

/-! ### newel/newelref05.Compare -/
def g_newelref05_Compare (n : Nat) (a0 : Str) (a1 : Str) : Option (Int) :=
  (g_newelref05_Split n a0).bind fun y1 =>
  (g_newelref05_Split n a1).bind fun y2 =>
  (g_newelref05_Words n y1 y2).bind fun y3 =>
  some y3
theorem g_newelref05_Compare.ok (n : Nat) (a0 : Str) (a1 : Str) (r : Int) (h : g_newelref05_Compare n a0 a1 = some r) : Impl Tryz.prog 12 [.one (dstr a0), .one (dstr a1)] [.one (dint r)] := by
  refine impl_wp tabOk Tryz.func12 rfl rfl (by kernel_rfl) ?_
  unfold g_newelref05_Compare at h
  refine WP_seq ?_
  refine vcc_sound _ _ _ tabOk (by exact rfl) ?_
  repeat (first | refine Ob.mk (by first | rfl | omega | assumption | exact ⟨rfl, rfl, (List.length_map _).symm⟩ | exact ⟨rfl, rfl, by rw [List.length_map]; omega⟩) ?_ | refine Br.t ?_ | refine Br.f ?_)
  refine WP_seq ?_
  refine vcc_sound _ _ _ tabOk (by exact rfl) ?_
  obtain ⟨y1, hy1, h⟩ := bind_some h
  repeat (first | refine Ob.mk (by first | rfl | omega | assumption | exact ⟨rfl, rfl, (List.length_map _).symm⟩ | exact ⟨rfl, rfl, by rw [List.length_map]; omega⟩) ?_ | refine Br.t ?_ | refine Br.f ?_)
  refine CallD.mk _ _ (g_newelref05_Split.ok n a0 y1 hy1) (by exact ⟨DLe.refl _, trivial⟩) ?_
  obtain ⟨y2, hy2, h⟩ := bind_some h
  repeat (first | refine Ob.mk (by first | rfl | omega | assumption | exact ⟨rfl, rfl, (List.length_map _).symm⟩ | exact ⟨rfl, rfl, by rw [List.length_map]; omega⟩) ?_ | refine Br.t ?_ | refine Br.f ?_)
  refine CallD.mk _ _ (g_newelref05_Split.ok n a1 y2 hy2) (by exact ⟨DLe.refl _, trivial⟩) ?_
  obtain ⟨y3, hy3, h⟩ := bind_some h
  repeat (first | refine Ob.mk (by first | rfl | omega | assumption | exact ⟨rfl, rfl, (List.length_map _).symm⟩ | exact ⟨rfl, rfl, by rw [List.length_map]; omega⟩) ?_ | refine Br.t ?_ | refine Br.f ?_)
  refine CallD.mk _ _ (g_newelref05_Words.ok n y1 y2 y3 hy3) (by exact ⟨DLe.refl _, DLe.refl _, trivial⟩) ?_
  repeat (first | refine Ob.mk (by first | rfl | omega | assumption | exact ⟨rfl, rfl, (List.length_map _).symm⟩ | exact ⟨rfl, rfl, by rw [List.length_map]; omega⟩) ?_ | refine Br.t ?_ | refine Br.f ?_)
  refine WP_ret ?_
  obtain rfl := Option.some.inj h
  repeat (first | refine Ob.mk (by first | rfl | omega | assumption | exact ⟨rfl, rfl, (List.length_map _).symm⟩ | exact ⟨rfl, rfl, by rw [List.length_map]; omega⟩) ?_ | refine Br.t ?_ | refine Br.f ?_)
  exact ⟨DLe.refl _, trivial⟩

/-! ### newel/newelref05.before -/
def g_newelref05_before (n : Nat) (a0 : Str) (a1 : Str) : Option (Bool) :=
  (g_newelref05_Compare n a0 a1).bind fun y1 =>
  bif (decide (y1 < 0)) then (
    some true
  ) else (
    bif (y1 == 0) then (
      some (Op.bytesLess a0.toList a1.toList)
    ) else (
      some false
    )
  )
theorem g_newelref05_before.ok (n : Nat) (a0 : Str) (a1 : Str) (r : Bool) (h : g_newelref05_before n a0 a1 = some r) : Impl Tryz.prog 44 [.one (dstr a0), .one (dstr a1)] [.one (dbool r)] := by
  refine impl_wp tabOk Tryz.func44 rfl rfl (by kernel_rfl) ?_
  unfold g_newelref05_before at h
  refine WP_seq ?_
  refine vcc_sound _ _ _ tabOk (by exact rfl) ?_
  repeat (first | refine Ob.mk (by first | rfl | omega | assumption | exact ⟨rfl, rfl, (List.length_map _).symm⟩ | exact ⟨rfl, rfl, by rw [List.length_map]; omega⟩) ?_ | refine Br.t ?_ | refine Br.f ?_)
  refine WP_seq ?_
  refine vcc_sound _ _ _ tabOk (by exact rfl) ?_
  obtain ⟨y1, hy1, h⟩ := bind_some h
  repeat (first | refine Ob.mk (by first | rfl | omega | assumption | exact ⟨rfl, rfl, (List.length_map _).symm⟩ | exact ⟨rfl, rfl, by rw [List.length_map]; omega⟩) ?_ | refine Br.t ?_ | refine Br.f ?_)
  refine CallD.mk _ _ (g_newelref05_Compare.ok n a0 a1 y1 hy1) (by exact ⟨DLe.refl _, DLe.refl _, trivial⟩) ?_
  repeat (first | refine Ob.mk (by first | rfl | omega | assumption | exact ⟨rfl, rfl, (List.length_map _).symm⟩ | exact ⟨rfl, rfl, by rw [List.length_map]; omega⟩) ?_ | refine Br.t ?_ | refine Br.f ?_)
  refine WP_seq ?_
  refine vcc_sound _ _ _ tabOk (by exact rfl) ?_
  repeat (first | refine Ob.mk (by first | rfl | omega | assumption | exact ⟨rfl, rfl, (List.length_map _).symm⟩ | exact ⟨rfl, rfl, by rw [List.length_map]; omega⟩) ?_ | refine Br.t ?_ | refine Br.f ?_)
  refine Br.mk (fun b2 => ?_) (fun b2 => ?_)
  · replace h := bif_t b2 h
    repeat (first | refine Ob.mk (by first | rfl | omega | assumption | exact ⟨rfl, rfl, (List.length_map _).symm⟩ | exact ⟨rfl, rfl, by rw [List.length_map]; omega⟩) ?_ | refine Br.t ?_ | refine Br.f ?_)
    refine WP_ret ?_
    obtain rfl := Option.some.inj h
    repeat (first | refine Ob.mk (by first | rfl | omega | assumption | exact ⟨rfl, rfl, (List.length_map _).symm⟩ | exact ⟨rfl, rfl, by rw [List.length_map]; omega⟩) ?_ | refine Br.t ?_ | refine Br.f ?_)
    exact ⟨DLe.refl _, trivial⟩
  · replace h := bif_f b2 h
    repeat (first | refine Ob.mk (by first | rfl | omega | assumption | exact ⟨rfl, rfl, (List.length_map _).symm⟩ | exact ⟨rfl, rfl, by rw [List.length_map]; omega⟩) ?_ | refine Br.t ?_ | refine Br.f ?_)
    refine Br.mk (fun b3 => ?_) (fun b3 => ?_)
    · replace h := bif_t b3 h
      repeat (first | refine Ob.mk (by first | rfl | omega | assumption | exact ⟨rfl, rfl, (List.length_map _).symm⟩ | exact ⟨rfl, rfl, by rw [List.length_map]; omega⟩) ?_ | refine Br.t ?_ | refine Br.f ?_)
      refine WP_ret ?_
      obtain rfl := Option.some.inj h
      repeat (first | refine Ob.mk (by first | rfl | omega | assumption | exact ⟨rfl, rfl, (List.length_map _).symm⟩ | exact ⟨rfl, rfl, by rw [List.length_map]; omega⟩) ?_ | refine Br.t ?_ | refine Br.f ?_)
      exact ⟨DLe.refl _, trivial⟩
    · replace h := bif_f b3 h
      repeat (first | refine Ob.mk (by first | rfl | omega | assumption | exact ⟨rfl, rfl, (List.length_map _).symm⟩ | exact ⟨rfl, rfl, by rw [List.length_map]; omega⟩) ?_ | refine Br.t ?_ | refine Br.f ?_)
      refine WP_ret ?_
      obtain rfl := Option.some.inj h
      repeat (first | refine Ob.mk (by first | rfl | omega | assumption | exact ⟨rfl, rfl, (List.length_map _).symm⟩ | exact ⟨rfl, rfl, by rw [List.length_map]; omega⟩) ?_ | refine Br.t ?_ | refine Br.f ?_)
      exact ⟨DLe.refl _, trivial⟩

/-! ### newel/newelref05.Sort -/
def g_newelref05_Sort.k94 (n : Nat) (x95 : (List Str)) : Option ((List Str)) :=
  some x95
def g_newelref05_Sort.k117 (n : Nat) (a0 : (List Str)) (x96 : (List Str)) (x97 : Int) (rec94 : (List Str) → Int → Option ((List Str))) (x118 : Int) : Option ((List Str)) :=
  chk (0 ≤ x118 ∧ x118 ≤ (x96.length : Int)) <|
  chk (room (x96.take x118.toNat).length 16) <|
  chk (0 ≤ x97 ∧ x97 < (a0.length : Int)) <|
  chk (room ((x96.take x118.toNat) ++ [(a0.getD x97.toNat emp)]).length 16) <|
  chk (0 ≤ x118 ∧ x118 ≤ (x96.length : Int)) <|
  chk (room (((x96.take x118.toNat) ++ [(a0.getD x97.toNat emp)]) ++ (x96.drop x118.toNat)).length 16) <|
  chk (in64 (x97 + 1)) <|
  rec94 (((x96.take x118.toNat) ++ [(a0.getD x97.toNat emp)]) ++ (x96.drop x118.toNat)) (x97 + 1)
def g_newelref05_Sort.l117b (n : Nat) (a0 : (List Str)) (x96 : (List Str)) (x97 : Int) (rec94 : (List Str) → Int → Option ((List Str))) (rec117 : Int → Option ((List Str))) (x132 : Int) : Option ((List Str)) :=
  bif (decide (x132 > 0)) then (
    chk (0 ≤ x97 ∧ x97 < (a0.length : Int)) <|
    chk (in64 (x132 - 1)) <|
    chk (0 ≤ (x132 - 1) ∧ (x132 - 1) < (x96.length : Int)) <|
    (g_newelref05_before n (a0.getD x97.toNat emp) (x96.getD ((x132 - 1).toNat) emp)).bind fun y137 =>
    bif y137 then (
      chk (in64 (x132 - 1)) <|
      rec117 (x132 - 1)
    ) else (
      g_newelref05_Sort.k117 n a0 x96 x97 rec94 x132
    )
  ) else (
    g_newelref05_Sort.k117 n a0 x96 x97 rec94 x132
  )
def g_newelref05_Sort.l117 (n : Nat) (a0 : (List Str)) (x96 : (List Str)) (x97 : Int) (rec94 : (List Str) → Int → Option ((List Str))) : Nat → Int → Option ((List Str))
  | 0, _ => none
  | m + 1, x132 => g_newelref05_Sort.l117b n a0 x96 x97 rec94 (g_newelref05_Sort.l117 n a0 x96 x97 rec94 m) x132
def g_newelref05_Sort.l94b (n : Nat) (a0 : (List Str)) (rec94 : (List Str) → Int → Option ((List Str))) (x96 : (List Str)) (x97 : Int) : Option ((List Str)) :=
  bif (decide (x97 < (a0.length : Int))) then (
    g_newelref05_Sort.l117 n a0 x96 x97 rec94 n (x96.length : Int)
  ) else (
    g_newelref05_Sort.k94 n x96
  )
def g_newelref05_Sort.l94 (n : Nat) (a0 : (List Str)) : Nat → (List Str) → Int → Option ((List Str))
  | 0, _, _ => none
  | m + 1, x96, x97 => g_newelref05_Sort.l94b n a0 (g_newelref05_Sort.l94 n a0 m) x96 x97
def g_newelref05_Sort (n : Nat) (a0 : (List Str)) : Option ((List Str)) :=
  g_newelref05_Sort.l94 n a0 n ([] : List Str) 0
theorem g_newelref05_Sort.ok (n : Nat) (a0 : (List Str)) (r : (List Str)) (h : g_newelref05_Sort n a0 = some r) : Impl Tryz.prog 37 [.one (.tl Str 1 encStr emp a0)] [.one (.tl Str 1 encStr emp r)] := by
  refine impl_wp tabOk Tryz.func37 rfl rfl (by kernel_rfl) ?_
  unfold g_newelref05_Sort at h
  refine WP_seq ?_
  refine vcc_sound _ _ _ tabOk (by exact rfl) ?_
  repeat (first | refine Ob.mk (by first | rfl | omega | assumption | exact ⟨rfl, rfl, (List.length_map _).symm⟩ | exact ⟨rfl, rfl, by rw [List.length_map]; omega⟩) ?_ | refine Br.t ?_ | refine Br.f ?_)
  refine WP_seq ?_
  refine vcc_sound _ _ _ tabOk (by exact rfl) ?_
  repeat (first | refine Ob.mk (by first | rfl | omega | assumption | exact ⟨rfl, rfl, (List.length_map _).symm⟩ | exact ⟨rfl, rfl, by rw [List.length_map]; omega⟩) ?_ | refine Br.t ?_ | refine Br.f ?_)
  refine WP_seq ?_
  refine WP_seq ?_
  refine vcc_sound _ _ _ tabOk (by exact rfl) ?_
  repeat (first | refine Ob.mk (by first | rfl | omega | assumption | exact ⟨rfl, rfl, (List.length_map _).symm⟩ | exact ⟨rfl, rfl, by rw [List.length_map]; omega⟩) ?_ | refine Br.t ?_ | refine Br.f ?_)
  refine WP_cutQ (α := {p : (List Str) // g_newelref05_Sort.k94 n p = some r}) (fun p => ofL [(3, .d (.tl Str 1 encStr emp p.1))]) (fun p => []) (WP_block (WP_loop (α := {x : Nat × (List Str) × Int // g_newelref05_Sort.l94 n a0 x.1 x.2.1 x.2.2 = some r}) (fun x => ofL [(0, .d (.tl Str 1 encStr emp a0)), (3, .d (.tl Str 1 encStr emp x.1.2.1)), (4, .int x.1.2.2)]) (fun x => []) (fun x => x.1.1) ⟨(n, ([] : List Str), 0), h⟩ ((Sub.le 3 rfl (DLe.nils emp)).trans (Sub.ofL _ _ (Nat.zero_le _) ⟨rfl, rfl, rfl, rfl, rfl, rfl, trivial⟩ rfl rfl)) ?_)) ?_
  rotate_left
  · rintro ⟨x95, h⟩ env st hs
    replace h : g_newelref05_Sort.k94 n x95 = some r := h
    unfold g_newelref05_Sort.k94 at h
    refine WP_sub hs ?_
    try dsimp only
    refine WP_seq ?_
    refine vcc_sound _ _ _ tabOk (by exact rfl) ?_
    repeat (first | refine Ob.mk (by first | rfl | omega | assumption | exact ⟨rfl, rfl, (List.length_map _).symm⟩ | exact ⟨rfl, rfl, by rw [List.length_map]; omega⟩) ?_ | refine Br.t ?_ | refine Br.f ?_)
    refine WP_ret ?_
    obtain rfl := Option.some.inj h
    repeat (first | refine Ob.mk (by first | rfl | omega | assumption | exact ⟨rfl, rfl, (List.length_map _).symm⟩ | exact ⟨rfl, rfl, by rw [List.length_map]; omega⟩) ?_ | refine Br.t ?_ | refine Br.f ?_)
    exact ⟨DLe.refl _, trivial⟩
  rintro ⟨⟨m94, x96, x97⟩, h⟩
  cases m94 with
  | zero => exact nomatch (show (none : Option ((List Str))) = some r from h)
  | succ m94 =>
    replace h : g_newelref05_Sort.l94b n a0 (g_newelref05_Sort.l94 n a0 m94) x96 x97 = some r := h
    unfold g_newelref05_Sort.l94b at h
    try dsimp only
    refine WP_seq ?_
    refine WP_seq ?_
    refine vcc_sound _ _ _ tabOk (by exact rfl) ?_
    repeat (first | refine Ob.mk (by first | rfl | omega | assumption | exact ⟨rfl, rfl, (List.length_map _).symm⟩ | exact ⟨rfl, rfl, by rw [List.length_map]; omega⟩) ?_ | refine Br.t ?_ | refine Br.f ?_)
    refine vcc_sound _ _ _ tabOk (by exact rfl) ?_
    repeat (first | refine Ob.mk (by first | rfl | omega | assumption | exact ⟨rfl, rfl, (List.length_map _).symm⟩ | exact ⟨rfl, rfl, by rw [List.length_map]; omega⟩) ?_ | refine Br.t ?_ | refine Br.f ?_)
    refine Br.mk (fun b99 => ?_) (fun b99 => ?_)
    · replace h := bif_t b99 h
      refine WP_skip ?_
      refine WP_seq ?_
      refine WP_block ?_
      refine WP_seq ?_
      refine vcc_sound _ _ _ tabOk (by exact rfl) ?_
      repeat (first | refine Ob.mk (by first | rfl | omega | assumption | exact ⟨rfl, rfl, (List.length_map _).symm⟩ | exact ⟨rfl, rfl, by rw [List.length_map]; omega⟩) ?_ | refine Br.t ?_ | refine Br.f ?_)
      refine WP_seq_cut (α := {p : Int // g_newelref05_Sort.k117 n a0 x96 x97 (g_newelref05_Sort.l94 n a0 m94) p = some r}) (fun p => ofL [(0, .d (.tl Str 1 encStr emp a0)), (3, .d (.tl Str 1 encStr emp x96)), (4, .int x97), (5, .int p.1)]) (fun p => []) (WP_block (WP_loop (α := {x : Nat × Int // g_newelref05_Sort.l117 n a0 x96 x97 (g_newelref05_Sort.l94 n a0 m94) x.1 x.2 = some r}) (fun x => ofL [(0, .d (.tl Str 1 encStr emp a0)), (3, .d (.tl Str 1 encStr emp x96)), (4, .int x97), (5, .int x.1.2)]) (fun x => []) (fun x => x.1.1) ⟨(n, (x96.length : Int)), h⟩ (Sub.ofL _ _ (Nat.zero_le _) ⟨rfl, rfl, rfl, rfl, rfl, rfl, rfl, rfl, trivial⟩ rfl rfl) ?_)) ?_
      rotate_left
      · rintro ⟨x118, h⟩
        replace h : g_newelref05_Sort.k117 n a0 x96 x97 (g_newelref05_Sort.l94 n a0 m94) x118 = some r := h
        unfold g_newelref05_Sort.k117 at h
        try dsimp only
        refine cdraw3 tabOk 15 [false, false, false, true, false, false, false, false, false, true, false, false, false, true, false] [[.row 0 9 1 ((x96.take x118.toNat).map encStr)], [.row (0 + 1) 9 1 (((x96.take x118.toNat) ++ [(a0.getD x97.toNat emp)]).map encStr)], [.row ((0 + 1) + 1) 9 1 ((((x96.take x118.toNat) ++ [(a0.getD x97.toNat emp)]) ++ (x96.drop x118.toNat)).map encStr)]] (by kernel_rfl) ?_
        repeat (first | refine Ob.mk (by first | rfl | omega | assumption | exact ⟨rfl, rfl, (List.length_map _).symm⟩ | exact ⟨rfl, rfl, by rw [List.length_map]; omega⟩) ?_ | refine Br.t ?_ | refine Br.f ?_)
        refine PuK.mk (.d (.tl Str 1 encStr emp x96)) (fun st => ?_) ?_
        · skip
          repeat (first | refine Ob.mk (by first | rfl | omega | assumption | exact ⟨rfl, rfl, (List.length_map _).symm⟩ | exact ⟨rfl, rfl, by rw [List.length_map]; omega⟩) ?_ | refine Br.t ?_ | refine Br.f ?_)
          exact ⟨rfl, rfl⟩
        repeat (first | refine Ob.mk (by first | rfl | omega | assumption | exact ⟨rfl, rfl, (List.length_map _).symm⟩ | exact ⟨rfl, rfl, by rw [List.length_map]; omega⟩) ?_ | refine Br.t ?_ | refine Br.f ?_)
        refine PuK.mk (.int x118) (fun st => ?_) ?_
        · skip
          repeat (first | refine Ob.mk (by first | rfl | omega | assumption | exact ⟨rfl, rfl, (List.length_map _).symm⟩ | exact ⟨rfl, rfl, by rw [List.length_map]; omega⟩) ?_ | refine Br.t ?_ | refine Br.f ?_)
          exact ⟨rfl, rfl⟩
        obtain ⟨c125, h⟩ := chk_some h
        repeat (first | refine Ob.mk (by first | rfl | omega | assumption | exact ⟨rfl, rfl, (List.length_map _).symm⟩ | exact ⟨rfl, rfl, by rw [List.length_map]; omega⟩) ?_ | refine Br.t ?_ | refine Br.f ?_)
        refine PuK.mk (.d (.tl Str 1 encStr emp (x96.take x118.toNat))) (fun st => ?_) ?_
        · skip
          repeat (first | refine Ob.mk (by first | rfl | omega | assumption | exact ⟨rfl, rfl, (List.length_map _).symm⟩ | exact ⟨rfl, rfl, by rw [List.length_map]; omega⟩) ?_ | refine Br.t ?_ | refine Br.f ?_)
          exact ⟨rfl, rfl⟩
        obtain ⟨c126, h⟩ := chk_some h
        repeat (first | refine Ob.mk (by first | rfl | omega | assumption | exact ⟨rfl, rfl, (List.length_map _).symm⟩ | exact ⟨rfl, rfl, by rw [List.length_map]; omega⟩) ?_ | refine Br.t ?_ | refine Br.f ?_)
        refine AppN.ty encStr (x96.take x118.toNat) ?_ c126 ?_
        · exact rfl
        repeat (first | refine Ob.mk (by first | rfl | omega | assumption | exact ⟨rfl, rfl, (List.length_map _).symm⟩ | exact ⟨rfl, rfl, by rw [List.length_map]; omega⟩) ?_ | refine Br.t ?_ | refine Br.f ?_)
        repeat (first | refine Ob.mk (by first | rfl | omega | assumption | exact ⟨rfl, rfl, (List.length_map _).symm⟩ | exact ⟨rfl, rfl, by rw [List.length_map]; omega⟩) ?_ | refine Br.t ?_ | refine Br.f ?_)
        refine PuK.mk (.d (.tl Str 1 encStr emp a0)) (fun st => ?_) ?_
        · skip
          repeat (first | refine Ob.mk (by first | rfl | omega | assumption | exact ⟨rfl, rfl, (List.length_map _).symm⟩ | exact ⟨rfl, rfl, by rw [List.length_map]; omega⟩) ?_ | refine Br.t ?_ | refine Br.f ?_)
          exact ⟨rfl, rfl⟩
        repeat (first | refine Ob.mk (by first | rfl | omega | assumption | exact ⟨rfl, rfl, (List.length_map _).symm⟩ | exact ⟨rfl, rfl, by rw [List.length_map]; omega⟩) ?_ | refine Br.t ?_ | refine Br.f ?_)
        refine PuK.mk (.int x97) (fun st => ?_) ?_
        · skip
          repeat (first | refine Ob.mk (by first | rfl | omega | assumption | exact ⟨rfl, rfl, (List.length_map _).symm⟩ | exact ⟨rfl, rfl, by rw [List.length_map]; omega⟩) ?_ | refine Br.t ?_ | refine Br.f ?_)
          exact ⟨rfl, rfl⟩
        obtain ⟨c127, h⟩ := chk_some h
        repeat (first | refine Ob.mk (by first | rfl | omega | assumption | exact ⟨rfl, rfl, (List.length_map _).symm⟩ | exact ⟨rfl, rfl, by rw [List.length_map]; omega⟩) ?_ | refine Br.t ?_ | refine Br.f ?_)
        refine PuK.mk (.d (.ref (encStr (a0.getD x97.toNat emp)))) (fun st => ?_) ?_
        · skip
          repeat (first | refine Ob.mk (by first | rfl | omega | assumption | exact ⟨rfl, rfl, (List.length_map _).symm⟩ | exact ⟨rfl, rfl, by rw [List.length_map]; omega⟩) ?_ | refine Br.t ?_ | refine Br.f ?_)
          exact ⟨rfl, rfl⟩
        repeat (first | refine Ob.mk (by first | rfl | omega | assumption | exact ⟨rfl, rfl, (List.length_map _).symm⟩ | exact ⟨rfl, rfl, by rw [List.length_map]; omega⟩) ?_ | refine Br.t ?_ | refine Br.f ?_)
        refine PuK.mk (.str (a0.getD x97.toNat emp)) (fun st => ?_) ?_
        · skip
          repeat (first | refine Ob.mk (by first | rfl | omega | assumption | exact ⟨rfl, rfl, (List.length_map _).symm⟩ | exact ⟨rfl, rfl, by rw [List.length_map]; omega⟩) ?_ | refine Br.t ?_ | refine Br.f ?_)
          exact ⟨rfl, rfl⟩
        repeat (first | refine Ob.mk (by first | rfl | omega | assumption | exact ⟨rfl, rfl, (List.length_map _).symm⟩ | exact ⟨rfl, rfl, by rw [List.length_map]; omega⟩) ?_ | refine Br.t ?_ | refine Br.f ?_)
        refine PuK.mk (.d (.tl Str 1 encStr emp [(a0.getD x97.toNat emp)])) (fun st => ?_) ?_
        · skip
          repeat (first | refine Ob.mk (by first | rfl | omega | assumption | exact ⟨rfl, rfl, (List.length_map _).symm⟩ | exact ⟨rfl, rfl, by rw [List.length_map]; omega⟩) ?_ | refine Br.t ?_ | refine Br.f ?_)
          refine NewS.ty encStr emp [(a0.getD x97.toNat emp)] rfl ?_
          repeat (first | refine Ob.mk (by first | rfl | omega | assumption | exact ⟨rfl, rfl, (List.length_map _).symm⟩ | exact ⟨rfl, rfl, by rw [List.length_map]; omega⟩) ?_ | refine Br.t ?_ | refine Br.f ?_)
          exact ⟨rfl, rfl⟩
        obtain ⟨c128, h⟩ := chk_some h
        repeat (first | refine Ob.mk (by first | rfl | omega | assumption | exact ⟨rfl, rfl, (List.length_map _).symm⟩ | exact ⟨rfl, rfl, by rw [List.length_map]; omega⟩) ?_ | refine Br.t ?_ | refine Br.f ?_)
        refine AppK.ty encStr (x96.take x118.toNat) [(a0.getD x97.toNat emp)] rfl rfl ?_ c128 ?_
        · exact rfl
        repeat (first | refine Ob.mk (by first | rfl | omega | assumption | exact ⟨rfl, rfl, (List.length_map _).symm⟩ | exact ⟨rfl, rfl, by rw [List.length_map]; omega⟩) ?_ | refine Br.t ?_ | refine Br.f ?_)
        repeat (first | refine Ob.mk (by first | rfl | omega | assumption | exact ⟨rfl, rfl, (List.length_map _).symm⟩ | exact ⟨rfl, rfl, by rw [List.length_map]; omega⟩) ?_ | refine Br.t ?_ | refine Br.f ?_)
        refine PuK.mk (.d (.tl Str 1 encStr emp x96)) (fun st => ?_) ?_
        · skip
          repeat (first | refine Ob.mk (by first | rfl | omega | assumption | exact ⟨rfl, rfl, (List.length_map _).symm⟩ | exact ⟨rfl, rfl, by rw [List.length_map]; omega⟩) ?_ | refine Br.t ?_ | refine Br.f ?_)
          exact ⟨rfl, rfl⟩
        repeat (first | refine Ob.mk (by first | rfl | omega | assumption | exact ⟨rfl, rfl, (List.length_map _).symm⟩ | exact ⟨rfl, rfl, by rw [List.length_map]; omega⟩) ?_ | refine Br.t ?_ | refine Br.f ?_)
        refine PuK.mk (.int x118) (fun st => ?_) ?_
        · skip
          repeat (first | refine Ob.mk (by first | rfl | omega | assumption | exact ⟨rfl, rfl, (List.length_map _).symm⟩ | exact ⟨rfl, rfl, by rw [List.length_map]; omega⟩) ?_ | refine Br.t ?_ | refine Br.f ?_)
          exact ⟨rfl, rfl⟩
        obtain ⟨c129, h⟩ := chk_some h
        repeat (first | refine Ob.mk (by first | rfl | omega | assumption | exact ⟨rfl, rfl, (List.length_map _).symm⟩ | exact ⟨rfl, rfl, by rw [List.length_map]; omega⟩) ?_ | refine Br.t ?_ | refine Br.f ?_)
        refine PuK.mk (.d (.tl Str 1 encStr emp (x96.drop x118.toNat))) (fun st => ?_) ?_
        · skip
          repeat (first | refine Ob.mk (by first | rfl | omega | assumption | exact ⟨rfl, rfl, (List.length_map _).symm⟩ | exact ⟨rfl, rfl, by rw [List.length_map]; omega⟩) ?_ | refine Br.t ?_ | refine Br.f ?_)
          exact ⟨rfl, rfl⟩
        obtain ⟨c130, h⟩ := chk_some h
        repeat (first | refine Ob.mk (by first | rfl | omega | assumption | exact ⟨rfl, rfl, (List.length_map _).symm⟩ | exact ⟨rfl, rfl, by rw [List.length_map]; omega⟩) ?_ | refine Br.t ?_ | refine Br.f ?_)
        refine AppK.ty encStr ((x96.take x118.toNat) ++ [(a0.getD x97.toNat emp)]) (x96.drop x118.toNat) rfl rfl ?_ c130 ?_
        · exact rfl
        repeat (first | refine Ob.mk (by first | rfl | omega | assumption | exact ⟨rfl, rfl, (List.length_map _).symm⟩ | exact ⟨rfl, rfl, by rw [List.length_map]; omega⟩) ?_ | refine Br.t ?_ | refine Br.f ?_)
        repeat (first | refine Ob.mk (by first | rfl | omega | assumption | exact ⟨rfl, rfl, (List.length_map _).symm⟩ | exact ⟨rfl, rfl, by rw [List.length_map]; omega⟩) ?_ | refine Br.t ?_ | refine Br.f ?_)
        refine PuK.mk (.h 0 ((0 + 1) + 1) 0 (((x96.take x118.toNat) ++ [(a0.getD x97.toNat emp)]) ++ (x96.drop x118.toNat)).length) (fun st => ?_) ?_
        · skip
          repeat (first | refine Ob.mk (by first | rfl | omega | assumption | exact ⟨rfl, rfl, (List.length_map _).symm⟩ | exact ⟨rfl, rfl, by rw [List.length_map]; omega⟩) ?_ | refine Br.t ?_ | refine Br.f ?_)
          exact ⟨rfl, rfl⟩
        repeat (first | refine Ob.mk (by first | rfl | omega | assumption | exact ⟨rfl, rfl, (List.length_map _).symm⟩ | exact ⟨rfl, rfl, by rw [List.length_map]; omega⟩) ?_ | refine Br.t ?_ | refine Br.f ?_)
        refine vcc_sound _ _ _ tabOk (by exact rfl) ?_
        obtain ⟨c131, h⟩ := chk_some h
        repeat (first | refine Ob.mk (by first | rfl | omega | assumption | exact ⟨rfl, rfl, (List.length_map _).symm⟩ | exact ⟨rfl, rfl, by rw [List.length_map]; omega⟩) ?_ | refine Br.t ?_ | refine Br.f ?_)
        repeat (first | refine Ob.mk (by first | rfl | omega | assumption | exact ⟨rfl, rfl, (List.length_map _).symm⟩ | exact ⟨rfl, rfl, by rw [List.length_map]; omega⟩) ?_ | refine Br.t ?_ | refine Br.f ?_)
        exact ⟨⟨(m94, (((x96.take x118.toNat) ++ [(a0.getD x97.toNat emp)]) ++ (x96.drop x118.toNat)), (x97 + 1)), h⟩, Nat.lt_succ_self _, (Sub.shutT (s := 0) (k := ((0 + 1) + 1)) (n := (((x96.take x118.toNat) ++ [(a0.getD x97.toNat emp)]) ++ (x96.drop x118.toNat)).length) (e := 9) (sz := 1) 3 encStr emp (((x96.take x118.toNat) ++ [(a0.getD x97.toNat emp)]) ++ (x96.drop x118.toNat)) rfl rfl rfl).trans (Sub.ofL _ _ (Nat.zero_le _) ⟨rfl, rfl, rfl, rfl, rfl, rfl, trivial⟩ rfl rfl)⟩
      rintro ⟨⟨m117, x132⟩, h⟩
      cases m117 with
      | zero => exact nomatch (show (none : Option ((List Str))) = some r from h)
      | succ m117 =>
        replace h : g_newelref05_Sort.l117b n a0 x96 x97 (g_newelref05_Sort.l94 n a0 m94) (g_newelref05_Sort.l117 n a0 x96 x97 (g_newelref05_Sort.l94 n a0 m94) m117) x132 = some r := h
        unfold g_newelref05_Sort.l117b at h
        try dsimp only
        refine WP_seq ?_
        refine WP_seq ?_
        refine cdraw1 tabOk (by kernel_rfl) ?_
        repeat (first | refine Ob.mk (by first | rfl | omega | assumption | exact ⟨rfl, rfl, (List.length_map _).symm⟩ | exact ⟨rfl, rfl, by rw [List.length_map]; omega⟩) ?_ | refine Br.t ?_ | refine Br.f ?_)
        refine Br.mk (fun b133 => ?_) (fun b133 => ?_)
        · replace h := bif_t b133 h
          obtain ⟨c134, h⟩ := chk_some h
          obtain ⟨c135, h⟩ := chk_some h
          obtain ⟨c136, h⟩ := chk_some h
          obtain ⟨y137, hy137, h⟩ := bind_some h
          repeat (first | refine Ob.mk (by first | rfl | omega | assumption | exact ⟨rfl, rfl, (List.length_map _).symm⟩ | exact ⟨rfl, rfl, by rw [List.length_map]; omega⟩) ?_ | refine Br.t ?_ | refine Br.f ?_)
          refine CallD.mk _ _ (g_newelref05_before.ok n (a0.getD x97.toNat emp) (x96.getD ((x132 - 1).toNat) emp) y137 hy137) (by exact ⟨DLe.refl _, DLe.refl _, trivial⟩) ?_
          repeat (first | refine Ob.mk (by first | rfl | omega | assumption | exact ⟨rfl, rfl, (List.length_map _).symm⟩ | exact ⟨rfl, rfl, by rw [List.length_map]; omega⟩) ?_ | refine Br.t ?_ | refine Br.f ?_)
          refine vcc_sound _ _ _ tabOk (by exact rfl) ?_
          repeat (first | refine Ob.mk (by first | rfl | omega | assumption | exact ⟨rfl, rfl, (List.length_map _).symm⟩ | exact ⟨rfl, rfl, by rw [List.length_map]; omega⟩) ?_ | refine Br.t ?_ | refine Br.f ?_)
          refine Br.mk (fun b138 => ?_) (fun b138 => ?_)
          · replace h := bif_t b138 h
            refine WP_skip ?_
            refine WP_block ?_
            refine vcc_sound _ _ _ tabOk (by exact rfl) ?_
            obtain ⟨c139, h⟩ := chk_some h
            repeat (first | refine Ob.mk (by first | rfl | omega | assumption | exact ⟨rfl, rfl, (List.length_map _).symm⟩ | exact ⟨rfl, rfl, by rw [List.length_map]; omega⟩) ?_ | refine Br.t ?_ | refine Br.f ?_)
            repeat (first | refine Ob.mk (by first | rfl | omega | assumption | exact ⟨rfl, rfl, (List.length_map _).symm⟩ | exact ⟨rfl, rfl, by rw [List.length_map]; omega⟩) ?_ | refine Br.t ?_ | refine Br.f ?_)
            exact ⟨⟨(m117, (x132 - 1)), h⟩, Nat.lt_succ_self _, Sub.ofL _ _ (Nat.zero_le _) ⟨rfl, rfl, rfl, rfl, rfl, rfl, rfl, rfl, trivial⟩ rfl rfl⟩
          · replace h := bif_f b138 h
            refine WP_exit ?_
            repeat (first | refine Ob.mk (by first | rfl | omega | assumption | exact ⟨rfl, rfl, (List.length_map _).symm⟩ | exact ⟨rfl, rfl, by rw [List.length_map]; omega⟩) ?_ | refine Br.t ?_ | refine Br.f ?_)
            exact ⟨⟨x132, h⟩, Sub.ofL _ _ (Nat.zero_le _) ⟨rfl, rfl, rfl, rfl, rfl, rfl, rfl, rfl, trivial⟩ rfl rfl⟩
        · replace h := bif_f b133 h
          repeat (first | refine Ob.mk (by first | rfl | omega | assumption | exact ⟨rfl, rfl, (List.length_map _).symm⟩ | exact ⟨rfl, rfl, by rw [List.length_map]; omega⟩) ?_ | refine Br.t ?_ | refine Br.f ?_)
          refine vcc_sound _ _ _ tabOk (by exact rfl) ?_
          repeat (first | refine Ob.mk (by first | rfl | omega | assumption | exact ⟨rfl, rfl, (List.length_map _).symm⟩ | exact ⟨rfl, rfl, by rw [List.length_map]; omega⟩) ?_ | refine Br.t ?_ | refine Br.f ?_)
          refine WP_exit ?_
          repeat (first | refine Ob.mk (by first | rfl | omega | assumption | exact ⟨rfl, rfl, (List.length_map _).symm⟩ | exact ⟨rfl, rfl, by rw [List.length_map]; omega⟩) ?_ | refine Br.t ?_ | refine Br.f ?_)
          exact ⟨⟨x132, h⟩, Sub.ofL _ _ (Nat.zero_le _) ⟨rfl, rfl, rfl, rfl, rfl, rfl, rfl, rfl, trivial⟩ rfl rfl⟩
    · replace h := bif_f b99 h
      refine WP_exit ?_
      repeat (first | refine Ob.mk (by first | rfl | omega | assumption | exact ⟨rfl, rfl, (List.length_map _).symm⟩ | exact ⟨rfl, rfl, by rw [List.length_map]; omega⟩) ?_ | refine Br.t ?_ | refine Br.f ?_)
      exact ⟨⟨x96, h⟩, Sub.ofL _ _ (Nat.zero_le _) ⟨rfl, rfl, trivial⟩ rfl rfl⟩

/-! ### newel/order.Compare -/
def g_order_Compare (n : Nat) (a0 : Str) (a1 : Str) : Option (Int) :=
  (g_words_Split n a0).bind fun y1 =>
  (g_words_Split n a1).bind fun y2 =>
  (g_order_Words n y1 y2).bind fun y3 =>
  some y3
theorem g_order_Compare.ok (n : Nat) (a0 : Str) (a1 : Str) (r : Int) (h : g_order_Compare n a0 a1 = some r) : Impl Tryz.prog 49 [.one (dstr a0), .one (dstr a1)] [.one (dint r)] := by
  refine impl_wp tabOk Tryz.func49 rfl rfl (by kernel_rfl) ?_
  unfold g_order_Compare at h
  refine WP_seq ?_
  refine vcc_sound _ _ _ tabOk (by exact rfl) ?_
  repeat (first | refine Ob.mk (by first | rfl | omega | assumption | exact ⟨rfl, rfl, (List.length_map _).symm⟩ | exact ⟨rfl, rfl, by rw [List.length_map]; omega⟩) ?_ | refine Br.t ?_ | refine Br.f ?_)
  refine WP_seq ?_
  refine vcc_sound _ _ _ tabOk (by exact rfl) ?_
  obtain ⟨y1, hy1, h⟩ := bind_some h
  repeat (first | refine Ob.mk (by first | rfl | omega | assumption | exact ⟨rfl, rfl, (List.length_map _).symm⟩ | exact ⟨rfl, rfl, by rw [List.length_map]; omega⟩) ?_ | refine Br.t ?_ | refine Br.f ?_)
  refine CallD.mk _ _ (g_words_Split.ok n a0 y1 hy1) (by exact ⟨DLe.refl _, trivial⟩) ?_
  obtain ⟨y2, hy2, h⟩ := bind_some h
  repeat (first | refine Ob.mk (by first | rfl | omega | assumption | exact ⟨rfl, rfl, (List.length_map _).symm⟩ | exact ⟨rfl, rfl, by rw [List.length_map]; omega⟩) ?_ | refine Br.t ?_ | refine Br.f ?_)
  refine CallD.mk _ _ (g_words_Split.ok n a1 y2 hy2) (by exact ⟨DLe.refl _, trivial⟩) ?_
  obtain ⟨y3, hy3, h⟩ := bind_some h
  repeat (first | refine Ob.mk (by first | rfl | omega | assumption | exact ⟨rfl, rfl, (List.length_map _).symm⟩ | exact ⟨rfl, rfl, by rw [List.length_map]; omega⟩) ?_ | refine Br.t ?_ | refine Br.f ?_)
  refine CallD.mk _ _ (g_order_Words.ok n y1 y2 y3 hy3) (by exact ⟨DLe.refl _, DLe.refl _, trivial⟩) ?_
  repeat (first | refine Ob.mk (by first | rfl | omega | assumption | exact ⟨rfl, rfl, (List.length_map _).symm⟩ | exact ⟨rfl, rfl, by rw [List.length_map]; omega⟩) ?_ | refine Br.t ?_ | refine Br.f ?_)
  refine WP_ret ?_
  obtain rfl := Option.some.inj h
  repeat (first | refine Ob.mk (by first | rfl | omega | assumption | exact ⟨rfl, rfl, (List.length_map _).symm⟩ | exact ⟨rfl, rfl, by rw [List.length_map]; omega⟩) ?_ | refine Br.t ?_ | refine Br.f ?_)
  exact ⟨DLe.refl _, trivial⟩

/-! ### cmp.isNaN[string] -/
def g_cmp_isNaN_string (n : Nat) (a0 : Str) : Option (Bool) :=
  some (!(a0.toList == a0.toList))
theorem g_cmp_isNaN_string.ok (n : Nat) (a0 : Str) (r : Bool) (h : g_cmp_isNaN_string n a0 = some r) : Impl Tryz.prog 83 [.one (dstr a0)] [.one (dbool r)] := by
  refine impl_wp tabOk Tryz.func83 rfl rfl (by kernel_rfl) ?_
  unfold g_cmp_isNaN_string at h
  refine WP_seq ?_
  refine vcc_sound _ _ _ tabOk (by exact rfl) ?_
  repeat (first | refine Ob.mk (by first | rfl | omega | assumption | exact ⟨rfl, rfl, (List.length_map _).symm⟩ | exact ⟨rfl, rfl, by rw [List.length_map]; omega⟩) ?_ | refine Br.t ?_ | refine Br.f ?_)
  refine WP_seq ?_
  refine vcc_sound _ _ _ tabOk (by exact rfl) ?_
  repeat (first | refine Ob.mk (by first | rfl | omega | assumption | exact ⟨rfl, rfl, (List.length_map _).symm⟩ | exact ⟨rfl, rfl, by rw [List.length_map]; omega⟩) ?_ | refine Br.t ?_ | refine Br.f ?_)
  refine WP_ret ?_
  obtain rfl := Option.some.inj h
  repeat (first | refine Ob.mk (by first | rfl | omega | assumption | exact ⟨rfl, rfl, (List.length_map _).symm⟩ | exact ⟨rfl, rfl, by rw [List.length_map]; omega⟩) ?_ | refine Br.t ?_ | refine Br.f ?_)
  exact ⟨DLe.refl _, trivial⟩

/-! ### cmp.Compare[string] -/
def g_cmp_Compare_string (n : Nat) (a0 : Str) (a1 : Str) : Option (Int) :=
  (g_cmp_isNaN_string n a0).bind fun y1 =>
  (g_cmp_isNaN_string n a1).bind fun y2 =>
  bif y1 then (
    bif y2 then (
      some 0
    ) else (
      some (-1)
    )
  ) else (
    bif y2 then (
      some 1
    ) else (
      bif (Op.bytesLess a0.toList a1.toList) then (
        some (-1)
      ) else (
        bif (!(Op.bytesLess a0.toList a1.toList || a0.toList == a1.toList)) then (
          some 1
        ) else (
          some 0
        )
      )
    )
  )
theorem g_cmp_Compare_string.ok (n : Nat) (a0 : Str) (a1 : Str) (r : Int) (h : g_cmp_Compare_string n a0 a1 = some r) : Impl Tryz.prog 48 [.one (dstr a0), .one (dstr a1)] [.one (dint r)] := by
  refine impl_wp tabOk Tryz.func48 rfl rfl (by kernel_rfl) ?_
  unfold g_cmp_Compare_string at h
  refine WP_seq ?_
  refine vcc_sound _ _ _ tabOk (by exact rfl) ?_
  repeat (first | refine Ob.mk (by first | rfl | omega | assumption | exact ⟨rfl, rfl, (List.length_map _).symm⟩ | exact ⟨rfl, rfl, by rw [List.length_map]; omega⟩) ?_ | refine Br.t ?_ | refine Br.f ?_)
  refine WP_seq ?_
  refine vcc_sound _ _ _ tabOk (by exact rfl) ?_
  obtain ⟨y1, hy1, h⟩ := bind_some h
  repeat (first | refine Ob.mk (by first | rfl | omega | assumption | exact ⟨rfl, rfl, (List.length_map _).symm⟩ | exact ⟨rfl, rfl, by rw [List.length_map]; omega⟩) ?_ | refine Br.t ?_ | refine Br.f ?_)
  refine CallD.mk _ _ (g_cmp_isNaN_string.ok n a0 y1 hy1) (by exact ⟨DLe.refl _, trivial⟩) ?_
  repeat (first | refine Ob.mk (by first | rfl | omega | assumption | exact ⟨rfl, rfl, (List.length_map _).symm⟩ | exact ⟨rfl, rfl, by rw [List.length_map]; omega⟩) ?_ | refine Br.t ?_ | refine Br.f ?_)
  refine WP_seq ?_
  refine vcc_sound _ _ _ tabOk (by exact rfl) ?_
  obtain ⟨y2, hy2, h⟩ := bind_some h
  repeat (first | refine Ob.mk (by first | rfl | omega | assumption | exact ⟨rfl, rfl, (List.length_map _).symm⟩ | exact ⟨rfl, rfl, by rw [List.length_map]; omega⟩) ?_ | refine Br.t ?_ | refine Br.f ?_)
  refine CallD.mk _ _ (g_cmp_isNaN_string.ok n a1 y2 hy2) (by exact ⟨DLe.refl _, trivial⟩) ?_
  repeat (first | refine Ob.mk (by first | rfl | omega | assumption | exact ⟨rfl, rfl, (List.length_map _).symm⟩ | exact ⟨rfl, rfl, by rw [List.length_map]; omega⟩) ?_ | refine Br.t ?_ | refine Br.f ?_)
  refine WP_seq ?_
  refine WP_seq ?_
  refine vcc_sound _ _ _ tabOk (by exact rfl) ?_
  repeat (first | refine Ob.mk (by first | rfl | omega | assumption | exact ⟨rfl, rfl, (List.length_map _).symm⟩ | exact ⟨rfl, rfl, by rw [List.length_map]; omega⟩) ?_ | refine Br.t ?_ | refine Br.f ?_)
  refine vcc_sound _ _ _ tabOk (by exact rfl) ?_
  repeat (first | refine Ob.mk (by first | rfl | omega | assumption | exact ⟨rfl, rfl, (List.length_map _).symm⟩ | exact ⟨rfl, rfl, by rw [List.length_map]; omega⟩) ?_ | refine Br.t ?_ | refine Br.f ?_)
  refine Br.mk (fun b5 => ?_) (fun b5 => ?_)
  · replace h := bif_t b5 h
    refine WP_seq ?_
    refine WP_seq ?_
    refine vcc_sound _ _ _ tabOk (by exact rfl) ?_
    repeat (first | refine Ob.mk (by first | rfl | omega | assumption | exact ⟨rfl, rfl, (List.length_map _).symm⟩ | exact ⟨rfl, rfl, by rw [List.length_map]; omega⟩) ?_ | refine Br.t ?_ | refine Br.f ?_)
    refine vcc_sound _ _ _ tabOk (by exact rfl) ?_
    repeat (first | refine Ob.mk (by first | rfl | omega | assumption | exact ⟨rfl, rfl, (List.length_map _).symm⟩ | exact ⟨rfl, rfl, by rw [List.length_map]; omega⟩) ?_ | refine Br.t ?_ | refine Br.f ?_)
    refine Br.mk (fun b6 => ?_) (fun b6 => ?_)
    · replace h := bif_t b6 h
      refine WP_seq ?_
      refine vcc_sound _ _ _ tabOk (by exact rfl) ?_
      repeat (first | refine Ob.mk (by first | rfl | omega | assumption | exact ⟨rfl, rfl, (List.length_map _).symm⟩ | exact ⟨rfl, rfl, by rw [List.length_map]; omega⟩) ?_ | refine Br.t ?_ | refine Br.f ?_)
      refine WP_ret ?_
      obtain rfl := Option.some.inj h
      repeat (first | refine Ob.mk (by first | rfl | omega | assumption | exact ⟨rfl, rfl, (List.length_map _).symm⟩ | exact ⟨rfl, rfl, by rw [List.length_map]; omega⟩) ?_ | refine Br.t ?_ | refine Br.f ?_)
      exact ⟨DLe.refl _, trivial⟩
    · replace h := bif_f b6 h
      refine WP_skip ?_
      refine WP_seq ?_
      refine vcc_sound _ _ _ tabOk (by exact rfl) ?_
      repeat (first | refine Ob.mk (by first | rfl | omega | assumption | exact ⟨rfl, rfl, (List.length_map _).symm⟩ | exact ⟨rfl, rfl, by rw [List.length_map]; omega⟩) ?_ | refine Br.t ?_ | refine Br.f ?_)
      refine WP_ret ?_
      obtain rfl := Option.some.inj h
      repeat (first | refine Ob.mk (by first | rfl | omega | assumption | exact ⟨rfl, rfl, (List.length_map _).symm⟩ | exact ⟨rfl, rfl, by rw [List.length_map]; omega⟩) ?_ | refine Br.t ?_ | refine Br.f ?_)
      exact ⟨DLe.refl _, trivial⟩
  · replace h := bif_f b5 h
    refine WP_skip ?_
    refine WP_seq ?_
    refine WP_seq ?_
    refine vcc_sound _ _ _ tabOk (by exact rfl) ?_
    repeat (first | refine Ob.mk (by first | rfl | omega | assumption | exact ⟨rfl, rfl, (List.length_map _).symm⟩ | exact ⟨rfl, rfl, by rw [List.length_map]; omega⟩) ?_ | refine Br.t ?_ | refine Br.f ?_)
    refine vcc_sound _ _ _ tabOk (by exact rfl) ?_
    repeat (first | refine Ob.mk (by first | rfl | omega | assumption | exact ⟨rfl, rfl, (List.length_map _).symm⟩ | exact ⟨rfl, rfl, by rw [List.length_map]; omega⟩) ?_ | refine Br.t ?_ | refine Br.f ?_)
    refine Br.mk (fun b8 => ?_) (fun b8 => ?_)
    · replace h := bif_t b8 h
      refine WP_seq ?_
      refine vcc_sound _ _ _ tabOk (by exact rfl) ?_
      repeat (first | refine Ob.mk (by first | rfl | omega | assumption | exact ⟨rfl, rfl, (List.length_map _).symm⟩ | exact ⟨rfl, rfl, by rw [List.length_map]; omega⟩) ?_ | refine Br.t ?_ | refine Br.f ?_)
      refine WP_ret ?_
      obtain rfl := Option.some.inj h
      repeat (first | refine Ob.mk (by first | rfl | omega | assumption | exact ⟨rfl, rfl, (List.length_map _).symm⟩ | exact ⟨rfl, rfl, by rw [List.length_map]; omega⟩) ?_ | refine Br.t ?_ | refine Br.f ?_)
      exact ⟨DLe.refl _, trivial⟩
    · replace h := bif_f b8 h
      refine WP_skip ?_
      refine WP_seq ?_
      refine WP_seq ?_
      refine vcc_sound _ _ _ tabOk (by exact rfl) ?_
      repeat (first | refine Ob.mk (by first | rfl | omega | assumption | exact ⟨rfl, rfl, (List.length_map _).symm⟩ | exact ⟨rfl, rfl, by rw [List.length_map]; omega⟩) ?_ | refine Br.t ?_ | refine Br.f ?_)
      refine vcc_sound _ _ _ tabOk (by exact rfl) ?_
      repeat (first | refine Ob.mk (by first | rfl | omega | assumption | exact ⟨rfl, rfl, (List.length_map _).symm⟩ | exact ⟨rfl, rfl, by rw [List.length_map]; omega⟩) ?_ | refine Br.t ?_ | refine Br.f ?_)
      refine Br.mk (fun b10 => ?_) (fun b10 => ?_)
      · replace h := bif_t b10 h
        refine WP_seq ?_
        refine vcc_sound _ _ _ tabOk (by exact rfl) ?_
        repeat (first | refine Ob.mk (by first | rfl | omega | assumption | exact ⟨rfl, rfl, (List.length_map _).symm⟩ | exact ⟨rfl, rfl, by rw [List.length_map]; omega⟩) ?_ | refine Br.t ?_ | refine Br.f ?_)
        refine WP_ret ?_
        obtain rfl := Option.some.inj h
        repeat (first | refine Ob.mk (by first | rfl | omega | assumption | exact ⟨rfl, rfl, (List.length_map _).symm⟩ | exact ⟨rfl, rfl, by rw [List.length_map]; omega⟩) ?_ | refine Br.t ?_ | refine Br.f ?_)
        exact ⟨DLe.refl _, trivial⟩
      · replace h := bif_f b10 h
        refine WP_skip ?_
        refine WP_seq ?_
        refine WP_seq ?_
        refine vcc_sound _ _ _ tabOk (by exact rfl) ?_
        repeat (first | refine Ob.mk (by first | rfl | omega | assumption | exact ⟨rfl, rfl, (List.length_map _).symm⟩ | exact ⟨rfl, rfl, by rw [List.length_map]; omega⟩) ?_ | refine Br.t ?_ | refine Br.f ?_)
        refine vcc_sound _ _ _ tabOk (by exact rfl) ?_
        repeat (first | refine Ob.mk (by first | rfl | omega | assumption | exact ⟨rfl, rfl, (List.length_map _).symm⟩ | exact ⟨rfl, rfl, by rw [List.length_map]; omega⟩) ?_ | refine Br.t ?_ | refine Br.f ?_)
        refine Br.mk (fun b11 => ?_) (fun b11 => ?_)
        · replace h := bif_t b11 h
          refine WP_seq ?_
          refine vcc_sound _ _ _ tabOk (by exact rfl) ?_
          repeat (first | refine Ob.mk (by first | rfl | omega | assumption | exact ⟨rfl, rfl, (List.length_map _).symm⟩ | exact ⟨rfl, rfl, by rw [List.length_map]; omega⟩) ?_ | refine Br.t ?_ | refine Br.f ?_)
          refine WP_ret ?_
          obtain rfl := Option.some.inj h
          repeat (first | refine Ob.mk (by first | rfl | omega | assumption | exact ⟨rfl, rfl, (List.length_map _).symm⟩ | exact ⟨rfl, rfl, by rw [List.length_map]; omega⟩) ?_ | refine Br.t ?_ | refine Br.f ?_)
          exact ⟨DLe.refl _, trivial⟩
        · replace h := bif_f b11 h
          refine WP_skip ?_
          refine WP_seq ?_
          refine vcc_sound _ _ _ tabOk (by exact rfl) ?_
          repeat (first | refine Ob.mk (by first | rfl | omega | assumption | exact ⟨rfl, rfl, (List.length_map _).symm⟩ | exact ⟨rfl, rfl, by rw [List.length_map]; omega⟩) ?_ | refine Br.t ?_ | refine Br.f ?_)
          refine WP_ret ?_
          obtain rfl := Option.some.inj h
          repeat (first | refine Ob.mk (by first | rfl | omega | assumption | exact ⟨rfl, rfl, (List.length_map _).symm⟩ | exact ⟨rfl, rfl, by rw [List.length_map]; omega⟩) ?_ | refine Br.t ?_ | refine Br.f ?_)
          exact ⟨DLe.refl _, trivial⟩

/-! ### cmp.Or[int] -/
def g_cmp_Or_int.k14 (n : Nat) : Option (Int) :=
  some 0
def g_cmp_Or_int.l14b (n : Nat) (a0 : (List Int)) (rec14 : Int → Option (Int)) (x15 : Int) : Option (Int) :=
  bif (decide (x15 < (a0.length : Int))) then (
    chk (0 ≤ x15 ∧ x15 < (a0.length : Int)) <|
    bif ((a0.getD x15.toNat (0 : Int)) != 0) then (
      some (a0.getD x15.toNat (0 : Int))
    ) else (
      chk (in64 (x15 + 1)) <|
      rec14 (x15 + 1)
    )
  ) else (
    g_cmp_Or_int.k14 n
  )
def g_cmp_Or_int.l14 (n : Nat) (a0 : (List Int)) : Nat → Int → Option (Int)
  | 0, _ => none
  | m + 1, x15 => g_cmp_Or_int.l14b n a0 (g_cmp_Or_int.l14 n a0 m) x15
def g_cmp_Or_int (n : Nat) (a0 : (List Int)) : Option (Int) :=
  g_cmp_Or_int.l14 n a0 n 0
theorem g_cmp_Or_int.ok (n : Nat) (a0 : (List Int)) (r : Int) (h : g_cmp_Or_int n a0 = some r) : Impl Tryz.prog 47 [.one (.tl Int 1 encInt (0 : Int) a0)] [.one (dint r)] := by
  refine impl_wp tabOk Tryz.func47 rfl rfl (by kernel_rfl) ?_
  unfold g_cmp_Or_int at h
  refine WP_seq ?_
  refine vcc_sound _ _ _ tabOk (by exact rfl) ?_
  repeat (first | refine Ob.mk (by first | rfl | omega | assumption | exact ⟨rfl, rfl, (List.length_map _).symm⟩ | exact ⟨rfl, rfl, by rw [List.length_map]; omega⟩) ?_ | refine Br.t ?_ | refine Br.f ?_)
  refine WP_seq ?_
  refine vcc_sound _ _ _ tabOk (by exact rfl) ?_
  repeat (first | refine Ob.mk (by first | rfl | omega | assumption | exact ⟨rfl, rfl, (List.length_map _).symm⟩ | exact ⟨rfl, rfl, by rw [List.length_map]; omega⟩) ?_ | refine Br.t ?_ | refine Br.f ?_)
  refine WP_seq ?_
  refine WP_seq ?_
  refine vcc_sound _ _ _ tabOk (by exact rfl) ?_
  repeat (first | refine Ob.mk (by first | rfl | omega | assumption | exact ⟨rfl, rfl, (List.length_map _).symm⟩ | exact ⟨rfl, rfl, by rw [List.length_map]; omega⟩) ?_ | refine Br.t ?_ | refine Br.f ?_)
  refine WP_cutQ (α := {p : Unit // g_cmp_Or_int.k14 n = some r}) (fun p => ofL [(3, .int 0)]) (fun p => []) (WP_block (WP_loop (α := {x : Nat × Int // g_cmp_Or_int.l14 n a0 x.1 x.2 = some r}) (fun x => ofL [(3, .int 0), (6, .d (.tl Int 1 encInt (0 : Int) a0)), (7, .int (a0.length : Int)), (8, .int x.1.2)]) (fun x => []) (fun x => x.1.1) ⟨(n, 0), h⟩ (Sub.ofL _ _ (Nat.zero_le _) ⟨rfl, rfl, rfl, rfl, rfl, rfl, rfl, rfl, trivial⟩ rfl rfl) ?_)) ?_
  rotate_left
  · rintro ⟨⟨⟩, h⟩ env st hs
    replace h : g_cmp_Or_int.k14 n = some r := h
    unfold g_cmp_Or_int.k14 at h
    refine WP_sub hs ?_
    try dsimp only
    refine WP_seq ?_
    refine vcc_sound _ _ _ tabOk (by exact rfl) ?_
    repeat (first | refine Ob.mk (by first | rfl | omega | assumption | exact ⟨rfl, rfl, (List.length_map _).symm⟩ | exact ⟨rfl, rfl, by rw [List.length_map]; omega⟩) ?_ | refine Br.t ?_ | refine Br.f ?_)
    refine WP_ret ?_
    obtain rfl := Option.some.inj h
    repeat (first | refine Ob.mk (by first | rfl | omega | assumption | exact ⟨rfl, rfl, (List.length_map _).symm⟩ | exact ⟨rfl, rfl, by rw [List.length_map]; omega⟩) ?_ | refine Br.t ?_ | refine Br.f ?_)
    exact ⟨DLe.refl _, trivial⟩
  rintro ⟨⟨m14, x15⟩, h⟩
  cases m14 with
  | zero => exact nomatch (show (none : Option (Int)) = some r from h)
  | succ m14 =>
    replace h : g_cmp_Or_int.l14b n a0 (g_cmp_Or_int.l14 n a0 m14) x15 = some r := h
    unfold g_cmp_Or_int.l14b at h
    try dsimp only
    refine WP_seq ?_
    refine vcc_sound _ _ _ tabOk (by exact rfl) ?_
    repeat (first | refine Ob.mk (by first | rfl | omega | assumption | exact ⟨rfl, rfl, (List.length_map _).symm⟩ | exact ⟨rfl, rfl, by rw [List.length_map]; omega⟩) ?_ | refine Br.t ?_ | refine Br.f ?_)
    refine WP_seq ?_
    refine vcc_sound _ _ _ tabOk (by exact rfl) ?_
    repeat (first | refine Ob.mk (by first | rfl | omega | assumption | exact ⟨rfl, rfl, (List.length_map _).symm⟩ | exact ⟨rfl, rfl, by rw [List.length_map]; omega⟩) ?_ | refine Br.t ?_ | refine Br.f ?_)
    refine Br.mk (fun b17 => ?_) (fun b17 => ?_)
    · replace h := bif_t b17 h
      refine WP_skip ?_
      refine WP_seq ?_
      refine WP_block ?_
      refine WP_seq ?_
      refine vcc_sound _ _ _ tabOk (by exact rfl) ?_
      obtain ⟨c18, h⟩ := chk_some h
      repeat (first | refine Ob.mk (by first | rfl | omega | assumption | exact ⟨rfl, rfl, (List.length_map _).symm⟩ | exact ⟨rfl, rfl, by rw [List.length_map]; omega⟩) ?_ | refine Br.t ?_ | refine Br.f ?_)
      refine WP_seq ?_
      refine vcc_sound _ _ _ tabOk (by exact rfl) ?_
      repeat (first | refine Ob.mk (by first | rfl | omega | assumption | exact ⟨rfl, rfl, (List.length_map _).symm⟩ | exact ⟨rfl, rfl, by rw [List.length_map]; omega⟩) ?_ | refine Br.t ?_ | refine Br.f ?_)
      refine vcc_sound _ _ _ tabOk (by exact rfl) ?_
      repeat (first | refine Ob.mk (by first | rfl | omega | assumption | exact ⟨rfl, rfl, (List.length_map _).symm⟩ | exact ⟨rfl, rfl, by rw [List.length_map]; omega⟩) ?_ | refine Br.t ?_ | refine Br.f ?_)
      refine Br.mk (fun b19 => ?_) (fun b19 => ?_)
      · replace h := bif_t b19 h
        refine WP_seq ?_
        refine vcc_sound _ _ _ tabOk (by exact rfl) ?_
        repeat (first | refine Ob.mk (by first | rfl | omega | assumption | exact ⟨rfl, rfl, (List.length_map _).symm⟩ | exact ⟨rfl, rfl, by rw [List.length_map]; omega⟩) ?_ | refine Br.t ?_ | refine Br.f ?_)
        refine WP_ret ?_
        obtain rfl := Option.some.inj h
        repeat (first | refine Ob.mk (by first | rfl | omega | assumption | exact ⟨rfl, rfl, (List.length_map _).symm⟩ | exact ⟨rfl, rfl, by rw [List.length_map]; omega⟩) ?_ | refine Br.t ?_ | refine Br.f ?_)
        exact ⟨DLe.refl _, trivial⟩
      · replace h := bif_f b19 h
        refine WP_skip ?_
        refine vcc_sound _ _ _ tabOk (by exact rfl) ?_
        obtain ⟨c20, h⟩ := chk_some h
        repeat (first | refine Ob.mk (by first | rfl | omega | assumption | exact ⟨rfl, rfl, (List.length_map _).symm⟩ | exact ⟨rfl, rfl, by rw [List.length_map]; omega⟩) ?_ | refine Br.t ?_ | refine Br.f ?_)
        repeat (first | refine Ob.mk (by first | rfl | omega | assumption | exact ⟨rfl, rfl, (List.length_map _).symm⟩ | exact ⟨rfl, rfl, by rw [List.length_map]; omega⟩) ?_ | refine Br.t ?_ | refine Br.f ?_)
        exact ⟨⟨(m14, (x15 + 1)), h⟩, Nat.lt_succ_self _, Sub.ofL _ _ (Nat.zero_le _) ⟨rfl, rfl, rfl, rfl, rfl, rfl, rfl, rfl, trivial⟩ rfl rfl⟩
    · replace h := bif_f b17 h
      refine WP_exit ?_
      repeat (first | refine Ob.mk (by first | rfl | omega | assumption | exact ⟨rfl, rfl, (List.length_map _).symm⟩ | exact ⟨rfl, rfl, by rw [List.length_map]; omega⟩) ?_ | refine Br.t ?_ | refine Br.f ?_)
      exact ⟨⟨(), h⟩, Sub.ofL _ _ (Nat.zero_le _) ⟨rfl, rfl, trivial⟩ rfl rfl⟩

/-! ### newel/order.whole -/
def g_order_whole (n : Nat) (a0 : Str) (a1 : Str) : Option (Int) :=
  (g_order_Compare n a0 a1).bind fun y1 =>
  (g_cmp_Compare_string n a0 a1).bind fun y2 =>
  (g_cmp_Or_int n [y1, y2]).bind fun y3 =>
  some y3
theorem g_order_whole.ok (n : Nat) (a0 : Str) (a1 : Str) (r : Int) (h : g_order_whole n a0 a1 = some r) : Impl Tryz.prog 55 [.one (dstr a0), .one (dstr a1)] [.one (dint r)] := by
  refine impl_wp tabOk Tryz.func55 rfl rfl (by kernel_rfl) ?_
  unfold g_order_whole at h
  refine WP_seq ?_
  refine vcc_sound _ _ _ tabOk (by exact rfl) ?_
  repeat (first | refine Ob.mk (by first | rfl | omega | assumption | exact ⟨rfl, rfl, (List.length_map _).symm⟩ | exact ⟨rfl, rfl, by rw [List.length_map]; omega⟩) ?_ | refine Br.t ?_ | refine Br.f ?_)
  refine WP_seq ?_
  refine vcc_sound _ _ _ tabOk (by exact rfl) ?_
  obtain ⟨y1, hy1, h⟩ := bind_some h
  repeat (first | refine Ob.mk (by first | rfl | omega | assumption | exact ⟨rfl, rfl, (List.length_map _).symm⟩ | exact ⟨rfl, rfl, by rw [List.length_map]; omega⟩) ?_ | refine Br.t ?_ | refine Br.f ?_)
  refine CallD.mk _ _ (g_order_Compare.ok n a0 a1 y1 hy1) (by exact ⟨DLe.refl _, DLe.refl _, trivial⟩) ?_
  obtain ⟨y2, hy2, h⟩ := bind_some h
  repeat (first | refine Ob.mk (by first | rfl | omega | assumption | exact ⟨rfl, rfl, (List.length_map _).symm⟩ | exact ⟨rfl, rfl, by rw [List.length_map]; omega⟩) ?_ | refine Br.t ?_ | refine Br.f ?_)
  refine CallD.mk _ _ (g_cmp_Compare_string.ok n a0 a1 y2 hy2) (by exact ⟨DLe.refl _, DLe.refl _, trivial⟩) ?_
  repeat (first | refine Ob.mk (by first | rfl | omega | assumption | exact ⟨rfl, rfl, (List.length_map _).symm⟩ | exact ⟨rfl, rfl, by rw [List.length_map]; omega⟩) ?_ | refine Br.t ?_ | refine Br.f ?_)
  refine NewS.ty encInt (0 : Int) [y1, y2] rfl ?_
  obtain ⟨y3, hy3, h⟩ := bind_some h
  repeat (first | refine Ob.mk (by first | rfl | omega | assumption | exact ⟨rfl, rfl, (List.length_map _).symm⟩ | exact ⟨rfl, rfl, by rw [List.length_map]; omega⟩) ?_ | refine Br.t ?_ | refine Br.f ?_)
  refine CallD.mk _ _ (g_cmp_Or_int.ok n [y1, y2] y3 hy3) (by exact ⟨DLe.refl _, trivial⟩) ?_
  repeat (first | refine Ob.mk (by first | rfl | omega | assumption | exact ⟨rfl, rfl, (List.length_map _).symm⟩ | exact ⟨rfl, rfl, by rw [List.length_map]; omega⟩) ?_ | refine Br.t ?_ | refine Br.f ?_)
  refine WP_ret ?_
  obtain rfl := Option.some.inj h
  repeat (first | refine Ob.mk (by first | rfl | omega | assumption | exact ⟨rfl, rfl, (List.length_map _).symm⟩ | exact ⟨rfl, rfl, by rw [List.length_map]; omega⟩) ?_ | refine Br.t ?_ | refine Br.f ?_)
  exact ⟨DLe.refl _, trivial⟩

/-! ### newel/newelhelp.Plain[string]$1 -/
def g_newelhelp_Plain_string_1 (n : Nat) (a0 : Str) (a1 : Str) : Option (Bool) :=
  some (a0.toList == a1.toList)
theorem g_newelhelp_Plain_string_1.ok (n : Nat) (a0 : Str) (a1 : Str) (r : Bool) (h : g_newelhelp_Plain_string_1 n a0 a1 = some r) : Impl Tryz.prog 36 [.one (dstr a0), .one (dstr a1)] [.one (dbool r)] := by
  refine impl_wp tabOk Tryz.func36 rfl rfl (by kernel_rfl) ?_
  unfold g_newelhelp_Plain_string_1 at h
  refine WP_seq ?_
  refine vcc_sound _ _ _ tabOk (by exact rfl) ?_
  repeat (first | refine Ob.mk (by first | rfl | omega | assumption | exact ⟨rfl, rfl, (List.length_map _).symm⟩ | exact ⟨rfl, rfl, by rw [List.length_map]; omega⟩) ?_ | refine Br.t ?_ | refine Br.f ?_)
  refine WP_seq ?_
  refine vcc_sound _ _ _ tabOk (by exact rfl) ?_
  repeat (first | refine Ob.mk (by first | rfl | omega | assumption | exact ⟨rfl, rfl, (List.length_map _).symm⟩ | exact ⟨rfl, rfl, by rw [List.length_map]; omega⟩) ?_ | refine Br.t ?_ | refine Br.f ?_)
  refine WP_ret ?_
  obtain rfl := Option.some.inj h
  repeat (first | refine Ob.mk (by first | rfl | omega | assumption | exact ⟨rfl, rfl, (List.length_map _).symm⟩ | exact ⟨rfl, rfl, by rw [List.length_map]; omega⟩) ?_ | refine Br.t ?_ | refine Br.f ?_)
  exact ⟨DLe.refl _, trivial⟩

/-! ### newel/newelhelp.Same[string] -/
def g_newelhelp_Same_string__newelhelp_Plain_string_1.k20 (n : Nat) : Option (Bool) :=
  some true
def g_newelhelp_Same_string__newelhelp_Plain_string_1.l20b (n : Nat) (a0 : (List Str)) (a1 : (List Str)) (rec20 : Int → Option (Bool)) (x21 : Int) : Option (Bool) :=
  bif (decide (x21 < (a0.length : Int))) then (
    chk (0 ≤ x21 ∧ x21 < (a0.length : Int)) <|
    chk (0 ≤ x21 ∧ x21 < (a1.length : Int)) <|
    (g_newelhelp_Plain_string_1 n (a0.getD x21.toNat emp) (a1.getD x21.toNat emp)).bind fun y26 =>
    bif (!y26) then (
      some false
    ) else (
      chk (in64 (x21 + 1)) <|
      rec20 (x21 + 1)
    )
  ) else (
    g_newelhelp_Same_string__newelhelp_Plain_string_1.k20 n
  )
def g_newelhelp_Same_string__newelhelp_Plain_string_1.l20 (n : Nat) (a0 : (List Str)) (a1 : (List Str)) : Nat → Int → Option (Bool)
  | 0, _ => none
  | m + 1, x21 => g_newelhelp_Same_string__newelhelp_Plain_string_1.l20b n a0 a1 (g_newelhelp_Same_string__newelhelp_Plain_string_1.l20 n a0 a1 m) x21
def g_newelhelp_Same_string__newelhelp_Plain_string_1 (n : Nat) (a0 : (List Str)) (a1 : (List Str)) : Option (Bool) :=
  bif ((a0.length : Int) != (a1.length : Int)) then (
    some false
  ) else (
    g_newelhelp_Same_string__newelhelp_Plain_string_1.l20 n a0 a1 n 0
  )
theorem g_newelhelp_Same_string__newelhelp_Plain_string_1.ok (n : Nat) (a0 : (List Str)) (a1 : (List Str)) (r : Bool) (h : g_newelhelp_Same_string__newelhelp_Plain_string_1 n a0 a1 = some r) : Impl Tryz.prog 35 [.one (.tl Str 1 encStr emp a0), .one (.tl Str 1 encStr emp a1), .one (.sc (.func (.func 36) #[] #[]))] [.one (dbool r)] := by
  refine impl_wp tabOk Tryz.func35 rfl rfl (by kernel_rfl) ?_
  unfold g_newelhelp_Same_string__newelhelp_Plain_string_1 at h
  refine WP_seq ?_
  refine vcc_sound _ _ _ tabOk (by exact rfl) ?_
  repeat (first | refine Ob.mk (by first | rfl | omega | assumption | exact ⟨rfl, rfl, (List.length_map _).symm⟩ | exact ⟨rfl, rfl, by rw [List.length_map]; omega⟩) ?_ | refine Br.t ?_ | refine Br.f ?_)
  refine WP_seq ?_
  refine WP_seq ?_
  refine vcc_sound _ _ _ tabOk (by exact rfl) ?_
  repeat (first | refine Ob.mk (by first | rfl | omega | assumption | exact ⟨rfl, rfl, (List.length_map _).symm⟩ | exact ⟨rfl, rfl, by rw [List.length_map]; omega⟩) ?_ | refine Br.t ?_ | refine Br.f ?_)
  refine vcc_sound _ _ _ tabOk (by exact rfl) ?_
  repeat (first | refine Ob.mk (by first | rfl | omega | assumption | exact ⟨rfl, rfl, (List.length_map _).symm⟩ | exact ⟨rfl, rfl, by rw [List.length_map]; omega⟩) ?_ | refine Br.t ?_ | refine Br.f ?_)
  refine Br.mk (fun b2 => ?_) (fun b2 => ?_)
  · replace h := bif_t b2 h
    refine WP_seq ?_
    refine vcc_sound _ _ _ tabOk (by exact rfl) ?_
    repeat (first | refine Ob.mk (by first | rfl | omega | assumption | exact ⟨rfl, rfl, (List.length_map _).symm⟩ | exact ⟨rfl, rfl, by rw [List.length_map]; omega⟩) ?_ | refine Br.t ?_ | refine Br.f ?_)
    refine WP_ret ?_
    obtain rfl := Option.some.inj h
    repeat (first | refine Ob.mk (by first | rfl | omega | assumption | exact ⟨rfl, rfl, (List.length_map _).symm⟩ | exact ⟨rfl, rfl, by rw [List.length_map]; omega⟩) ?_ | refine Br.t ?_ | refine Br.f ?_)
    exact ⟨DLe.refl _, trivial⟩
  · replace h := bif_f b2 h
    refine WP_skip ?_
    refine WP_seq ?_
    refine WP_seq ?_
    refine vcc_sound _ _ _ tabOk (by exact rfl) ?_
    repeat (first | refine Ob.mk (by first | rfl | omega | assumption | exact ⟨rfl, rfl, (List.length_map _).symm⟩ | exact ⟨rfl, rfl, by rw [List.length_map]; omega⟩) ?_ | refine Br.t ?_ | refine Br.f ?_)
    refine WP_cutQ (α := {p : Unit // g_newelhelp_Same_string__newelhelp_Plain_string_1.k20 n = some r}) (fun p => ofL []) (fun p => []) (WP_block (WP_loop (α := {x : Nat × Int // g_newelhelp_Same_string__newelhelp_Plain_string_1.l20 n a0 a1 x.1 x.2 = some r}) (fun x => ofL [(0, .d (.tl Str 1 encStr emp a0)), (1, .d (.tl Str 1 encStr emp a1)), (2, fnAV 36), (7, .int x.1.2)]) (fun x => []) (fun x => x.1.1) ⟨(n, 0), h⟩ (Sub.ofL _ _ (Nat.zero_le _) ⟨rfl, rfl, rfl, rfl, rfl, rfl, rfl, rfl, trivial⟩ rfl rfl) ?_)) ?_
    rotate_left
    · rintro ⟨⟨⟩, h⟩ env st hs
      replace h : g_newelhelp_Same_string__newelhelp_Plain_string_1.k20 n = some r := h
      unfold g_newelhelp_Same_string__newelhelp_Plain_string_1.k20 at h
      refine WP_sub hs ?_
      try dsimp only
      refine WP_seq ?_
      refine vcc_sound _ _ _ tabOk (by exact rfl) ?_
      repeat (first | refine Ob.mk (by first | rfl | omega | assumption | exact ⟨rfl, rfl, (List.length_map _).symm⟩ | exact ⟨rfl, rfl, by rw [List.length_map]; omega⟩) ?_ | refine Br.t ?_ | refine Br.f ?_)
      refine WP_ret ?_
      obtain rfl := Option.some.inj h
      repeat (first | refine Ob.mk (by first | rfl | omega | assumption | exact ⟨rfl, rfl, (List.length_map _).symm⟩ | exact ⟨rfl, rfl, by rw [List.length_map]; omega⟩) ?_ | refine Br.t ?_ | refine Br.f ?_)
      exact ⟨DLe.refl _, trivial⟩
    rintro ⟨⟨m20, x21⟩, h⟩
    cases m20 with
    | zero => exact nomatch (show (none : Option (Bool)) = some r from h)
    | succ m20 =>
      replace h : g_newelhelp_Same_string__newelhelp_Plain_string_1.l20b n a0 a1 (g_newelhelp_Same_string__newelhelp_Plain_string_1.l20 n a0 a1 m20) x21 = some r := h
      unfold g_newelhelp_Same_string__newelhelp_Plain_string_1.l20b at h
      try dsimp only
      refine WP_seq ?_
      refine WP_seq ?_
      refine vcc_sound _ _ _ tabOk (by exact rfl) ?_
      repeat (first | refine Ob.mk (by first | rfl | omega | assumption | exact ⟨rfl, rfl, (List.length_map _).symm⟩ | exact ⟨rfl, rfl, by rw [List.length_map]; omega⟩) ?_ | refine Br.t ?_ | refine Br.f ?_)
      refine vcc_sound _ _ _ tabOk (by exact rfl) ?_
      repeat (first | refine Ob.mk (by first | rfl | omega | assumption | exact ⟨rfl, rfl, (List.length_map _).symm⟩ | exact ⟨rfl, rfl, by rw [List.length_map]; omega⟩) ?_ | refine Br.t ?_ | refine Br.f ?_)
      refine Br.mk (fun b23 => ?_) (fun b23 => ?_)
      · replace h := bif_t b23 h
        refine WP_skip ?_
        refine WP_seq ?_
        refine WP_block ?_
        refine WP_seq ?_
        refine cdraw1 tabOk (by kernel_rfl) ?_
        obtain ⟨c24, h⟩ := chk_some h
        obtain ⟨c25, h⟩ := chk_some h
        obtain ⟨y26, hy26, h⟩ := bind_some h
        repeat (first | refine Ob.mk (by first | rfl | omega | assumption | exact ⟨rfl, rfl, (List.length_map _).symm⟩ | exact ⟨rfl, rfl, by rw [List.length_map]; omega⟩) ?_ | refine Br.t ?_ | refine Br.f ?_)
        refine CallD.mk _ _ (g_newelhelp_Plain_string_1.ok n (a0.getD x21.toNat emp) (a1.getD x21.toNat emp) y26 hy26) (by exact ⟨DLe.refl _, DLe.refl _, trivial⟩) ?_
        repeat (first | refine Ob.mk (by first | rfl | omega | assumption | exact ⟨rfl, rfl, (List.length_map _).symm⟩ | exact ⟨rfl, rfl, by rw [List.length_map]; omega⟩) ?_ | refine Br.t ?_ | refine Br.f ?_)
        refine vcc_sound _ _ _ tabOk (by exact rfl) ?_
        repeat (first | refine Ob.mk (by first | rfl | omega | assumption | exact ⟨rfl, rfl, (List.length_map _).symm⟩ | exact ⟨rfl, rfl, by rw [List.length_map]; omega⟩) ?_ | refine Br.t ?_ | refine Br.f ?_)
        refine Br.mk (fun b27 => ?_) (fun b27 => ?_)
        · replace h := bif_t b27 h
          refine WP_seq ?_
          refine vcc_sound _ _ _ tabOk (by exact rfl) ?_
          repeat (first | refine Ob.mk (by first | rfl | omega | assumption | exact ⟨rfl, rfl, (List.length_map _).symm⟩ | exact ⟨rfl, rfl, by rw [List.length_map]; omega⟩) ?_ | refine Br.t ?_ | refine Br.f ?_)
          refine WP_ret ?_
          obtain rfl := Option.some.inj h
          repeat (first | refine Ob.mk (by first | rfl | omega | assumption | exact ⟨rfl, rfl, (List.length_map _).symm⟩ | exact ⟨rfl, rfl, by rw [List.length_map]; omega⟩) ?_ | refine Br.t ?_ | refine Br.f ?_)
          exact ⟨DLe.refl _, trivial⟩
        · replace h := bif_f b27 h
          refine WP_skip ?_
          refine vcc_sound _ _ _ tabOk (by exact rfl) ?_
          obtain ⟨c28, h⟩ := chk_some h
          repeat (first | refine Ob.mk (by first | rfl | omega | assumption | exact ⟨rfl, rfl, (List.length_map _).symm⟩ | exact ⟨rfl, rfl, by rw [List.length_map]; omega⟩) ?_ | refine Br.t ?_ | refine Br.f ?_)
          repeat (first | refine Ob.mk (by first | rfl | omega | assumption | exact ⟨rfl, rfl, (List.length_map _).symm⟩ | exact ⟨rfl, rfl, by rw [List.length_map]; omega⟩) ?_ | refine Br.t ?_ | refine Br.f ?_)
          exact ⟨⟨(m20, (x21 + 1)), h⟩, Nat.lt_succ_self _, Sub.ofL _ _ (Nat.zero_le _) ⟨rfl, rfl, rfl, rfl, rfl, rfl, rfl, rfl, trivial⟩ rfl rfl⟩
      · replace h := bif_f b23 h
        refine WP_exit ?_
        repeat (first | refine Ob.mk (by first | rfl | omega | assumption | exact ⟨rfl, rfl, (List.length_map _).symm⟩ | exact ⟨rfl, rfl, by rw [List.length_map]; omega⟩) ?_ | refine Br.t ?_ | refine Br.f ?_)
        exact ⟨⟨(), h⟩, Sub.ofL _ _ (Nat.zero_le _) trivial rfl rfl⟩

/-! ### newel/newelhelp.Plain[string] -/
def g_newelhelp_Plain_string (n : Nat) (a0 : (List Str)) (a1 : (List Str)) : Option (Bool) :=
  (g_newelhelp_Same_string__newelhelp_Plain_string_1 n a0 a1).bind fun y1 =>
  some y1
theorem g_newelhelp_Plain_string.ok (n : Nat) (a0 : (List Str)) (a1 : (List Str)) (r : Bool) (h : g_newelhelp_Plain_string n a0 a1 = some r) : Impl Tryz.prog 20 [.one (.tl Str 1 encStr emp a0), .one (.tl Str 1 encStr emp a1)] [.one (dbool r)] := by
  refine impl_wp tabOk Tryz.func20 rfl rfl (by kernel_rfl) ?_
  unfold g_newelhelp_Plain_string at h
  refine WP_seq ?_
  refine vcc_sound _ _ _ tabOk (by exact rfl) ?_
  repeat (first | refine Ob.mk (by first | rfl | omega | assumption | exact ⟨rfl, rfl, (List.length_map _).symm⟩ | exact ⟨rfl, rfl, by rw [List.length_map]; omega⟩) ?_ | refine Br.t ?_ | refine Br.f ?_)
  refine WP_seq ?_
  refine vcc_sound _ _ _ tabOk (by exact rfl) ?_
  obtain ⟨y1, hy1, h⟩ := bind_some h
  repeat (first | refine Ob.mk (by first | rfl | omega | assumption | exact ⟨rfl, rfl, (List.length_map _).symm⟩ | exact ⟨rfl, rfl, by rw [List.length_map]; omega⟩) ?_ | refine Br.t ?_ | refine Br.f ?_)
  refine CallD.mk _ _ (g_newelhelp_Same_string__newelhelp_Plain_string_1.ok n a0 a1 y1 hy1) (by exact ⟨DLe.refl _, DLe.refl _, DLe.refl _, trivial⟩) ?_
  repeat (first | refine Ob.mk (by first | rfl | omega | assumption | exact ⟨rfl, rfl, (List.length_map _).symm⟩ | exact ⟨rfl, rfl, by rw [List.length_map]; omega⟩) ?_ | refine Br.t ?_ | refine Br.f ?_)
  refine WP_ret ?_
  obtain rfl := Option.some.inj h
  repeat (first | refine Ob.mk (by first | rfl | omega | assumption | exact ⟨rfl, rfl, (List.length_map _).symm⟩ | exact ⟨rfl, rfl, by rw [List.length_map]; omega⟩) ?_ | refine Br.t ?_ | refine Br.f ?_)
  exact ⟨DLe.refl _, trivial⟩

/-! ### newel/newelhelp.Digits -/
def g_newelhelp_Digits.b (recF : Int → Option (Str)) (n : Nat) (a0 : Int) : Option (Str) :=
  bif (decide (a0 < 10)) then (
    chk (in64 ((48 : Int) + a0)) <|
    some (bytesS [(IntKind.wrap .u8 ((48 : Int) + a0))])
  ) else (
    chk (in64 (a0.tdiv 10)) <|
    (recF (a0.tdiv 10)).bind fun y6 =>
    chk (in64 ((48 : Int) + (a0.tmod 10))) <|
    chk (textOk (y6.size + (bytesS [(IntKind.wrap .u8 ((48 : Int) + (a0.tmod 10)))]).size)) <|
    some (y6 ++ (bytesS [(IntKind.wrap .u8 ((48 : Int) + (a0.tmod 10)))]))
  )
def g_newelhelp_Digits : Nat → Int → Option (Str)
  | 0, _ => none
  | n + 1, a0 => g_newelhelp_Digits.b (g_newelhelp_Digits n) n a0
theorem g_newelhelp_Digits.ok (n : Nat) (a0 : Int) (r : Str) (h : g_newelhelp_Digits n a0 = some r) : Impl Tryz.prog 6 [.one (dint a0)] [.one (dstr r)] := by
  induction n generalizing a0 r with
  | zero => exact nomatch (show (none : Option (Str)) = some r from h)
  | succ n ih =>
  replace h : g_newelhelp_Digits.b (g_newelhelp_Digits n) n a0 = some r := h
  unfold g_newelhelp_Digits.b at h
  refine impl_wp tabOk Tryz.func6 rfl rfl (by kernel_rfl) ?_
  refine WP_seq ?_
  refine vcc_sound _ _ _ tabOk (by exact rfl) ?_
  repeat (first | refine Ob.mk (by first | rfl | omega | assumption | exact ⟨rfl, rfl, (List.length_map _).symm⟩ | exact ⟨rfl, rfl, by rw [List.length_map]; omega⟩) ?_ | refine Br.t ?_ | refine Br.f ?_)
  refine WP_seq ?_
  refine WP_seq ?_
  refine vcc_sound _ _ _ tabOk (by exact rfl) ?_
  repeat (first | refine Ob.mk (by first | rfl | omega | assumption | exact ⟨rfl, rfl, (List.length_map _).symm⟩ | exact ⟨rfl, rfl, by rw [List.length_map]; omega⟩) ?_ | refine Br.t ?_ | refine Br.f ?_)
  refine vcc_sound _ _ _ tabOk (by exact rfl) ?_
  repeat (first | refine Ob.mk (by first | rfl | omega | assumption | exact ⟨rfl, rfl, (List.length_map _).symm⟩ | exact ⟨rfl, rfl, by rw [List.length_map]; omega⟩) ?_ | refine Br.t ?_ | refine Br.f ?_)
  refine Br.mk (fun b3 => ?_) (fun b3 => ?_)
  · replace h := bif_t b3 h
    refine WP_seq ?_
    refine vcc_sound _ _ _ tabOk (by exact rfl) ?_
    obtain ⟨c4, h⟩ := chk_some h
    repeat (first | refine Ob.mk (by first | rfl | omega | assumption | exact ⟨rfl, rfl, (List.length_map _).symm⟩ | exact ⟨rfl, rfl, by rw [List.length_map]; omega⟩) ?_ | refine Br.t ?_ | refine Br.f ?_)
    refine NewS.ty byteRow (0 : Int) [(IntKind.wrap .u8 ((48 : Int) + a0))] rfl ?_
    repeat (first | refine Ob.mk (by first | rfl | omega | assumption | exact ⟨rfl, rfl, (List.length_map _).symm⟩ | exact ⟨rfl, rfl, by rw [List.length_map]; omega⟩) ?_ | refine Br.t ?_ | refine Br.f ?_)
    refine BytesK.mk [(IntKind.wrap .u8 ((48 : Int) + a0))] ?_ ?_
    · exact rfl
    repeat (first | refine Ob.mk (by first | rfl | omega | assumption | exact ⟨rfl, rfl, (List.length_map _).symm⟩ | exact ⟨rfl, rfl, by rw [List.length_map]; omega⟩) ?_ | refine Br.t ?_ | refine Br.f ?_)
    refine WP_ret ?_
    obtain rfl := Option.some.inj h
    repeat (first | refine Ob.mk (by first | rfl | omega | assumption | exact ⟨rfl, rfl, (List.length_map _).symm⟩ | exact ⟨rfl, rfl, by rw [List.length_map]; omega⟩) ?_ | refine Br.t ?_ | refine Br.f ?_)
    exact ⟨DLe.refl _, trivial⟩
  · replace h := bif_f b3 h
    refine WP_skip ?_
    refine WP_seq ?_
    refine cdraw1 tabOk (by kernel_rfl) ?_
    obtain ⟨c5, h⟩ := chk_some h
    obtain ⟨y6, hy6, h⟩ := bind_some h
    repeat (first | refine Ob.mk (by first | rfl | omega | assumption | exact ⟨rfl, rfl, (List.length_map _).symm⟩ | exact ⟨rfl, rfl, by rw [List.length_map]; omega⟩) ?_ | refine Br.t ?_ | refine Br.f ?_)
    refine CallD.mk _ _ (ih (a0.tdiv 10) y6 hy6) (by exact ⟨DLe.refl _, trivial⟩) ?_
    obtain ⟨c7, h⟩ := chk_some h
    repeat (first | refine Ob.mk (by first | rfl | omega | assumption | exact ⟨rfl, rfl, (List.length_map _).symm⟩ | exact ⟨rfl, rfl, by rw [List.length_map]; omega⟩) ?_ | refine Br.t ?_ | refine Br.f ?_)
    refine NewS.ty byteRow (0 : Int) [(IntKind.wrap .u8 ((48 : Int) + (a0.tmod 10)))] rfl ?_
    repeat (first | refine Ob.mk (by first | rfl | omega | assumption | exact ⟨rfl, rfl, (List.length_map _).symm⟩ | exact ⟨rfl, rfl, by rw [List.length_map]; omega⟩) ?_ | refine Br.t ?_ | refine Br.f ?_)
    refine BytesK.mk [(IntKind.wrap .u8 ((48 : Int) + (a0.tmod 10)))] ?_ ?_
    · exact rfl
    obtain ⟨c8, h⟩ := chk_some h
    repeat (first | refine Ob.mk (by first | rfl | omega | assumption | exact ⟨rfl, rfl, (List.length_map _).symm⟩ | exact ⟨rfl, rfl, by rw [List.length_map]; omega⟩) ?_ | refine Br.t ?_ | refine Br.f ?_)
    refine WP_ret ?_
    obtain rfl := Option.some.inj h
    repeat (first | refine Ob.mk (by first | rfl | omega | assumption | exact ⟨rfl, rfl, (List.length_map _).symm⟩ | exact ⟨rfl, rfl, by rw [List.length_map]; omega⟩) ?_ | refine Br.t ?_ | refine Br.f ?_)
    exact ⟨DLe.refl _, trivial⟩

/-! ### slices.Clone[[]string,string] -/
def g_slices_Clone_string_string (n : Nat) (l : (List Str)) : Option (List Str) := chk (room l.length 16) <| some l
theorem g_slices_Clone_string_string.ok (n : Nat) (l : (List Str)) (r : (List Str)) (h : g_slices_Clone_string_string n l = some r) : Impl Tryz.prog 53 [.one (.tl Str 1 encStr emp l)] [.one (.tl Str 1 encStr emp r)] := by
  obtain ⟨c1, h⟩ := chk_some h
  obtain rfl := Option.some.inj h
  refine impl_wp tabOk Tryz.func53 rfl rfl (by kernel_rfl) ?_
  refine WP_seq ?_
  refine vcc_sound _ _ _ tabOk (by exact rfl) ?_
  refine WP_seq ?_
  refine WP_seq ?_
  refine vcc_sound _ _ _ tabOk (by exact rfl) ?_
  refine And.intro (fun e => ?_) ?_
  · refine vcc_sound _ _ _ tabOk (by exact rfl) ?_
    repeat (first | refine Ob.mk (by first | rfl | omega | assumption | exact ⟨rfl, rfl, (List.length_map _).symm⟩ | exact ⟨rfl, rfl, by rw [List.length_map]; omega⟩) ?_ | refine Br.t ?_ | refine Br.f ?_)
    refine WP_seq ?_
    refine vcc_sound _ _ _ tabOk (by exact rfl) ?_
    refine WP_ret ?_
    exact ⟨by subst e; exact DLe.nils _, trivial⟩
  refine vcc_sound _ _ _ tabOk (by exact rfl) ?_
  repeat (first | refine Ob.mk (by first | rfl | omega | assumption | exact ⟨rfl, rfl, (List.length_map _).symm⟩ | exact ⟨rfl, rfl, by rw [List.length_map]; omega⟩) ?_ | refine Br.t ?_ | refine Br.f ?_)
  refine WP_skip ?_
  refine WP_seq ?_
  refine vcc_sound _ _ _ tabOk (by exact rfl) ?_
  repeat (first | refine Ob.mk (by first | rfl | omega | assumption | exact ⟨rfl, rfl, (List.length_map _).symm⟩ | exact ⟨rfl, rfl, by rw [List.length_map]; omega⟩) ?_ | refine Br.t ?_ | refine Br.f ?_)
  refine AppK.ty encStr [] l rfl rfl rfl (by simpa using c1) ?_
  refine WP_ret ?_
  repeat (first | refine Ob.mk (by first | rfl | omega | assumption | exact ⟨rfl, rfl, (List.length_map _).symm⟩ | exact ⟨rfl, rfl, by rw [List.length_map]; omega⟩) ?_ | refine Br.t ?_ | refine Br.f ?_)
  exact ⟨DLe.tl _ rfl, trivial⟩
theorem g_slices_Clone_string_string.own (n : Nat) (l : (List Str)) (r : (List Str)) (h : g_slices_Clone_string_string n l = some r) : Gives Tryz.prog 53 [.one (.tl Str 1 encStr emp l)] 9 1 (r.map encStr) := by
  obtain ⟨c1, h⟩ := chk_some h
  obtain rfl := Option.some.inj h
  refine gives_of Tryz.func53 rfl rfl rfl (by kernel_rfl) ?_
  refine WP_seq ?_
  refine vcc_sound _ _ _ tabOk (by exact rfl) ?_
  refine WP_seq ?_
  refine WP_seq ?_
  refine vcc_sound _ _ _ tabOk (by exact rfl) ?_
  refine And.intro (fun e => ?_) ?_
  · refine vcc_sound _ _ _ tabOk (by exact rfl) ?_
    repeat (first | refine Ob.mk (by first | rfl | omega | assumption | exact ⟨rfl, rfl, (List.length_map _).symm⟩ | exact ⟨rfl, rfl, by rw [List.length_map]; omega⟩) ?_ | refine Br.t ?_ | refine Br.f ?_)
    refine WP_seq ?_
    refine vcc_sound _ _ _ tabOk (by exact rfl) ?_
    refine WP_sub (Sub.nilsRow 2 9 1 rfl) ?_
    refine WP_ret ?_
    subst e
    exact ⟨0, rfl, rfl⟩
  refine vcc_sound _ _ _ tabOk (by exact rfl) ?_
  repeat (first | refine Ob.mk (by first | rfl | omega | assumption | exact ⟨rfl, rfl, (List.length_map _).symm⟩ | exact ⟨rfl, rfl, by rw [List.length_map]; omega⟩) ?_ | refine Br.t ?_ | refine Br.f ?_)
  refine WP_skip ?_
  refine WP_seq ?_
  refine vcc_sound _ _ _ tabOk (by exact rfl) ?_
  repeat (first | refine Ob.mk (by first | rfl | omega | assumption | exact ⟨rfl, rfl, (List.length_map _).symm⟩ | exact ⟨rfl, rfl, by rw [List.length_map]; omega⟩) ?_ | refine Br.t ?_ | refine Br.f ?_)
  refine AppK.ty encStr [] l rfl rfl rfl (by simpa using c1) ?_
  refine WP_ret ?_
  repeat (first | refine Ob.mk (by first | rfl | omega | assumption | exact ⟨rfl, rfl, (List.length_map _).symm⟩ | exact ⟨rfl, rfl, by rw [List.length_map]; omega⟩) ?_ | refine Br.t ?_ | refine Br.f ?_)
  exact ⟨_, congrArg (AV.h 0 _ 0) (List.length_map _).symm, rfl⟩

end Go.Proofs.Nw.K
end
