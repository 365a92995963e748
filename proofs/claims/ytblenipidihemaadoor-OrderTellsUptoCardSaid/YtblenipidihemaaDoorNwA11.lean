/- Bundle 11: NwQP4, NwQL2. -/
import Derived.Test.YtblenipidihemaaDoorNwA10
section
/- Printed by a program of mine (pg.py): functions that may have no answer, and that the code comes to them. -/
open Go Go.RowKit Go.Proofs
set_option linter.unusedVariables false
set_option linter.unusedSimpArgs false
set_option maxHeartbeats 1000000
namespace Go.Proofs.Nw.K

/-! ### newel/newellaw06.OrderNumbers$1 -/
def g_newellaw06_OrderNumbers_1.k23 (n : Nat) (x24 : Str) : Option (Str) :=
  some x24
def g_newellaw06_OrderNumbers_1.l23b (n : Nat) (a0 : (List Int)) (rec23 : Str → Int → Option (Str)) (x25 : Str) (x26 : Int) : Option (Str) :=
  bif (decide (x26 < (a0.length : Int))) then (
    bif (decide (x26 < 5)) then (
      chk (textOk (x25.size + (⟨#[46]⟩ : Str).size)) <|
      chk (0 ≤ x26 ∧ x26 < (a0.length : Int)) <|
      (g_newelhelp_Digits n (IntKind.wrap .i64 ((IntKind.wrap .u64 (a0.getD x26.toNat (0 : Int))).tmod 2000))).bind fun y33 =>
      chk (textOk ((x25 ++ (⟨#[46]⟩ : Str)).size + y33.size)) <|
      chk (in64 (x26 + 1)) <|
      rec23 ((x25 ++ (⟨#[46]⟩ : Str)) ++ y33) (x26 + 1)
    ) else (
      g_newellaw06_OrderNumbers_1.k23 n x25
    )
  ) else (
    g_newellaw06_OrderNumbers_1.k23 n x25
  )
def g_newellaw06_OrderNumbers_1.l23 (n : Nat) (a0 : (List Int)) : Nat → Str → Int → Option (Str)
  | 0, _, _ => none
  | m + 1, x25, x26 => g_newellaw06_OrderNumbers_1.l23b n a0 (g_newellaw06_OrderNumbers_1.l23 n a0 m) x25 x26
def g_newellaw06_OrderNumbers_1 (n : Nat) (a0 : (List Int)) : Option (Str) :=
  g_newellaw06_OrderNumbers_1.l23 n a0 n (⟨#[49]⟩ : Str) 0
theorem g_newellaw06_OrderNumbers_1.ok (n : Nat) (a0 : (List Int)) (r : Str) (h : g_newellaw06_OrderNumbers_1 n a0 = some r) : Impl Tryd.prog 15 [.one (.tl Int 1 encInt (0 : Int) a0)] [.one (dstr r)] := by
  refine impl_wp tabOk Tryd.func15 rfl rfl (by kernel_rfl) ?_
  unfold g_newellaw06_OrderNumbers_1 at h
  refine WP_seq ?_
  refine vcc_sound _ _ _ tabOk (by exact rfl) ?_
  repeat (first | refine Ob.mk (by first | rfl | omega | assumption | exact ⟨rfl, rfl, (List.length_map _).symm⟩ | exact ⟨rfl, rfl, by rw [List.length_map]; omega⟩) ?_ | refine Br.t ?_ | refine Br.f ?_)
  refine WP_seq ?_
  refine vcc_sound _ _ _ tabOk (by exact rfl) ?_
  repeat (first | refine Ob.mk (by first | rfl | omega | assumption | exact ⟨rfl, rfl, (List.length_map _).symm⟩ | exact ⟨rfl, rfl, by rw [List.length_map]; omega⟩) ?_ | refine Br.t ?_ | refine Br.f ?_)
  refine WP_seq ?_
  refine WP_seq ?_
  refine vcc_sound _ _ _ tabOk (by exact rfl) ?_
  repeat (first | refine Ob.mk (by first | rfl | omega | assumption | exact ⟨rfl, rfl, (List.length_map _).symm⟩ | exact ⟨rfl, rfl, by rw [List.length_map]; omega⟩) ?_ | refine Br.t ?_ | refine Br.f ?_)
  refine WP_cutQ (α := {p : Str // g_newellaw06_OrderNumbers_1.k23 n p = some r}) (fun p => ofL [(3, .str p.1)]) (fun p => []) (WP_block (WP_loop (α := {x : Nat × Str × Int // g_newellaw06_OrderNumbers_1.l23 n a0 x.1 x.2.1 x.2.2 = some r}) (fun x => ofL [(0, .d (.tl Int 1 encInt (0 : Int) a0)), (3, .str x.1.2.1), (4, .int x.1.2.2)]) (fun x => []) (fun x => x.1.1) ⟨(n, (⟨#[49]⟩ : Str), 0), h⟩ (Sub.ofL _ _ (Nat.zero_le _) ⟨rfl, rfl, rfl, rfl, rfl, rfl, trivial⟩ rfl rfl) ?_)) ?_
  rotate_left
  · rintro ⟨x24, h⟩ env st hs
    replace h : g_newellaw06_OrderNumbers_1.k23 n x24 = some r := h
    unfold g_newellaw06_OrderNumbers_1.k23 at h
    refine WP_sub hs ?_
    try dsimp only
    refine WP_seq ?_
    refine vcc_sound _ _ _ tabOk (by exact rfl) ?_
    repeat (first | refine Ob.mk (by first | rfl | omega | assumption | exact ⟨rfl, rfl, (List.length_map _).symm⟩ | exact ⟨rfl, rfl, by rw [List.length_map]; omega⟩) ?_ | refine Br.t ?_ | refine Br.f ?_)
    refine WP_ret ?_
    obtain rfl := Option.some.inj h
    repeat (first | refine Ob.mk (by first | rfl | omega | assumption | exact ⟨rfl, rfl, (List.length_map _).symm⟩ | exact ⟨rfl, rfl, by rw [List.length_map]; omega⟩) ?_ | refine Br.t ?_ | refine Br.f ?_)
    exact ⟨DLe.refl _, trivial⟩
  rintro ⟨⟨m23, x25, x26⟩, h⟩
  cases m23 with
  | zero => exact nomatch (show (none : Option (Str)) = some r from h)
  | succ m23 =>
    replace h : g_newellaw06_OrderNumbers_1.l23b n a0 (g_newellaw06_OrderNumbers_1.l23 n a0 m23) x25 x26 = some r := h
    unfold g_newellaw06_OrderNumbers_1.l23b at h
    try dsimp only
    refine WP_seq ?_
    refine WP_seq ?_
    refine vcc_sound _ _ _ tabOk (by exact rfl) ?_
    repeat (first | refine Ob.mk (by first | rfl | omega | assumption | exact ⟨rfl, rfl, (List.length_map _).symm⟩ | exact ⟨rfl, rfl, by rw [List.length_map]; omega⟩) ?_ | refine Br.t ?_ | refine Br.f ?_)
    refine Br.mk (fun b29 => ?_) (fun b29 => ?_)
    · replace h := bif_t b29 h
      repeat (first | refine Ob.mk (by first | rfl | omega | assumption | exact ⟨rfl, rfl, (List.length_map _).symm⟩ | exact ⟨rfl, rfl, by rw [List.length_map]; omega⟩) ?_ | refine Br.t ?_ | refine Br.f ?_)
      refine vcc_sound _ _ _ tabOk (by exact rfl) ?_
      repeat (first | refine Ob.mk (by first | rfl | omega | assumption | exact ⟨rfl, rfl, (List.length_map _).symm⟩ | exact ⟨rfl, rfl, by rw [List.length_map]; omega⟩) ?_ | refine Br.t ?_ | refine Br.f ?_)
      refine Br.mk (fun b30 => ?_) (fun b30 => ?_)
      · replace h := bif_t b30 h
        refine WP_skip ?_
        refine WP_seq ?_
        refine WP_block ?_
        refine vcc_sound _ _ _ tabOk (by exact rfl) ?_
        obtain ⟨c31, h⟩ := chk_some h
        obtain ⟨c32, h⟩ := chk_some h
        obtain ⟨y33, hy33, h⟩ := bind_some h
        repeat (first | refine Ob.mk (by first | rfl | omega | assumption | exact ⟨rfl, rfl, (List.length_map _).symm⟩ | exact ⟨rfl, rfl, by rw [List.length_map]; omega⟩) ?_ | refine Br.t ?_ | refine Br.f ?_)
        refine CallD.mk _ _ (g_newelhelp_Digits.ok n (IntKind.wrap .i64 ((IntKind.wrap .u64 (a0.getD x26.toNat (0 : Int))).tmod 2000)) y33 hy33) (by exact ⟨DLe.refl _, trivial⟩) ?_
        obtain ⟨c34, h⟩ := chk_some h
        repeat (first | refine Ob.mk (by first | rfl | omega | assumption | exact ⟨rfl, rfl, (List.length_map _).symm⟩ | exact ⟨rfl, rfl, by rw [List.length_map]; omega⟩) ?_ | refine Br.t ?_ | refine Br.f ?_)
        refine vcc_sound _ _ _ tabOk (by exact rfl) ?_
        obtain ⟨c35, h⟩ := chk_some h
        repeat (first | refine Ob.mk (by first | rfl | omega | assumption | exact ⟨rfl, rfl, (List.length_map _).symm⟩ | exact ⟨rfl, rfl, by rw [List.length_map]; omega⟩) ?_ | refine Br.t ?_ | refine Br.f ?_)
        repeat (first | refine Ob.mk (by first | rfl | omega | assumption | exact ⟨rfl, rfl, (List.length_map _).symm⟩ | exact ⟨rfl, rfl, by rw [List.length_map]; omega⟩) ?_ | refine Br.t ?_ | refine Br.f ?_)
        exact ⟨⟨(m23, ((x25 ++ (⟨#[46]⟩ : Str)) ++ y33), (x26 + 1)), h⟩, Nat.lt_succ_self _, Sub.ofL _ _ (Nat.zero_le _) ⟨rfl, rfl, rfl, rfl, rfl, rfl, trivial⟩ rfl rfl⟩
      · replace h := bif_f b30 h
        refine WP_exit ?_
        repeat (first | refine Ob.mk (by first | rfl | omega | assumption | exact ⟨rfl, rfl, (List.length_map _).symm⟩ | exact ⟨rfl, rfl, by rw [List.length_map]; omega⟩) ?_ | refine Br.t ?_ | refine Br.f ?_)
        exact ⟨⟨x25, h⟩, Sub.ofL _ _ (Nat.zero_le _) ⟨rfl, rfl, trivial⟩ rfl rfl⟩
    · replace h := bif_f b29 h
      repeat (first | refine Ob.mk (by first | rfl | omega | assumption | exact ⟨rfl, rfl, (List.length_map _).symm⟩ | exact ⟨rfl, rfl, by rw [List.length_map]; omega⟩) ?_ | refine Br.t ?_ | refine Br.f ?_)
      refine vcc_sound _ _ _ tabOk (by exact rfl) ?_
      repeat (first | refine Ob.mk (by first | rfl | omega | assumption | exact ⟨rfl, rfl, (List.length_map _).symm⟩ | exact ⟨rfl, rfl, by rw [List.length_map]; omega⟩) ?_ | refine Br.t ?_ | refine Br.f ?_)
      refine WP_exit ?_
      repeat (first | refine Ob.mk (by first | rfl | omega | assumption | exact ⟨rfl, rfl, (List.length_map _).symm⟩ | exact ⟨rfl, rfl, by rw [List.length_map]; omega⟩) ?_ | refine Br.t ?_ | refine Br.f ?_)
      exact ⟨⟨x25, h⟩, Sub.ofL _ _ (Nat.zero_le _) ⟨rfl, rfl, trivial⟩ rfl rfl⟩

/-! ### newel/newellaw06.OrderNumbers -/
def g_newellaw06_OrderNumbers.k45 (n : Nat) (a0 : (List Int)) (a1 : (List Int)) (x46 : Int) : Option (Bool) :=
  (g_newellaw06_awake n).bind fun y47 =>
  bif y47 then (
    (g_newellaw06_OrderNumbers_1 n a0).bind fun y49 =>
    (g_newellaw06_OrderNumbers_1 n a1).bind fun y50 =>
    (g_order_Compare n y49 y50).bind fun y51 =>
    some (y51 == x46)
  ) else (
    some false
  )
def g_newellaw06_OrderNumbers.k65 (n : Nat) (x52 : Int) (x53 : Int) (rec45 : Int → Int → Option (Bool)) (x60 : Int) (x64 : Int) : Option (Bool) :=
  bif (decide (x60 < x64)) then (
    chk (in64 (x53 + 1)) <|
    rec45 (-1) (x53 + 1)
  ) else (
    bif (decide (x60 > x64)) then (
      chk (in64 (x53 + 1)) <|
      rec45 1 (x53 + 1)
    ) else (
      chk (in64 (x53 + 1)) <|
      rec45 x52 (x53 + 1)
    )
  )
def g_newellaw06_OrderNumbers.k61 (n : Nat) (a1 : (List Int)) (x52 : Int) (x53 : Int) (rec45 : Int → Int → Option (Bool)) (x60 : Int) : Option (Bool) :=
  bif (decide (x53 < (a1.length : Int))) then (
    chk (0 ≤ x53 ∧ x53 < (a1.length : Int)) <|
    g_newellaw06_OrderNumbers.k65 n x52 x53 rec45 x60 (IntKind.wrap .i64 ((IntKind.wrap .u64 (a1.getD x53.toNat (0 : Int))).tmod 2000))
  ) else (
    g_newellaw06_OrderNumbers.k65 n x52 x53 rec45 x60 0
  )
def g_newellaw06_OrderNumbers.l45b (n : Nat) (a0 : (List Int)) (a1 : (List Int)) (rec45 : Int → Int → Option (Bool)) (x52 : Int) (x53 : Int) : Option (Bool) :=
  bif (decide (x53 < 5)) then (
    bif (x52 == 0) then (
      bif (decide (x53 < (a0.length : Int))) then (
        chk (0 ≤ x53 ∧ x53 < (a0.length : Int)) <|
        g_newellaw06_OrderNumbers.k61 n a1 x52 x53 rec45 (IntKind.wrap .i64 ((IntKind.wrap .u64 (a0.getD x53.toNat (0 : Int))).tmod 2000))
      ) else (
        g_newellaw06_OrderNumbers.k61 n a1 x52 x53 rec45 0
      )
    ) else (
      g_newellaw06_OrderNumbers.k45 n a0 a1 x52
    )
  ) else (
    g_newellaw06_OrderNumbers.k45 n a0 a1 x52
  )
def g_newellaw06_OrderNumbers.l45 (n : Nat) (a0 : (List Int)) (a1 : (List Int)) : Nat → Int → Int → Option (Bool)
  | 0, _, _ => none
  | m + 1, x52, x53 => g_newellaw06_OrderNumbers.l45b n a0 a1 (g_newellaw06_OrderNumbers.l45 n a0 a1 m) x52 x53
def g_newellaw06_OrderNumbers (n : Nat) (a0 : (List Int)) (a1 : (List Int)) : Option (Bool) :=
  g_newellaw06_OrderNumbers.l45 n a0 a1 n 0 0
theorem g_newellaw06_OrderNumbers.ok (n : Nat) (a0 : (List Int)) (a1 : (List Int)) (r : Bool) (h : g_newellaw06_OrderNumbers n a0 a1 = some r) : Impl Tryd.prog 4 [.one (.tl Int 1 encInt (0 : Int) a0), .one (.tl Int 1 encInt (0 : Int) a1)] [.one (dbool r)] := by
  refine impl_wp tabOk Tryd.func4 rfl rfl (by kernel_rfl) ?_
  unfold g_newellaw06_OrderNumbers at h
  refine WP_seq ?_
  refine vcc_sound _ _ _ tabOk (by exact rfl) ?_
  repeat (first | refine Ob.mk (by first | rfl | omega | assumption | exact ⟨rfl, rfl, (List.length_map _).symm⟩ | exact ⟨rfl, rfl, by rw [List.length_map]; omega⟩) ?_ | refine Br.t ?_ | refine Br.f ?_)
  refine WP_seq ?_
  refine vcc_sound _ _ _ tabOk (by exact rfl) ?_
  repeat (first | refine Ob.mk (by first | rfl | omega | assumption | exact ⟨rfl, rfl, (List.length_map _).symm⟩ | exact ⟨rfl, rfl, by rw [List.length_map]; omega⟩) ?_ | refine Br.t ?_ | refine Br.f ?_)
  refine WP_seq ?_
  refine vcc_sound _ _ _ tabOk (by exact rfl) ?_
  repeat (first | refine Ob.mk (by first | rfl | omega | assumption | exact ⟨rfl, rfl, (List.length_map _).symm⟩ | exact ⟨rfl, rfl, by rw [List.length_map]; omega⟩) ?_ | refine Br.t ?_ | refine Br.f ?_)
  refine WP_seq ?_
  refine WP_seq ?_
  refine vcc_sound _ _ _ tabOk (by exact rfl) ?_
  repeat (first | refine Ob.mk (by first | rfl | omega | assumption | exact ⟨rfl, rfl, (List.length_map _).symm⟩ | exact ⟨rfl, rfl, by rw [List.length_map]; omega⟩) ?_ | refine Br.t ?_ | refine Br.f ?_)
  refine WP_cutQ (α := {p : Int // g_newellaw06_OrderNumbers.k45 n a0 a1 p = some r}) (fun p => ofL [(0, .d (.tl Int 1 encInt (0 : Int) a0)), (1, .d (.tl Int 1 encInt (0 : Int) a1)), (5, fnAV 15), (6, .int p.1)]) (fun p => []) (WP_block (WP_loop (α := {x : Nat × Int × Int // g_newellaw06_OrderNumbers.l45 n a0 a1 x.1 x.2.1 x.2.2 = some r}) (fun x => ofL [(0, .d (.tl Int 1 encInt (0 : Int) a0)), (1, .d (.tl Int 1 encInt (0 : Int) a1)), (5, fnAV 15), (6, .int x.1.2.1), (7, .int x.1.2.2)]) (fun x => []) (fun x => x.1.1) ⟨(n, 0, 0), h⟩ (Sub.ofL _ _ (Nat.zero_le _) ⟨rfl, rfl, rfl, rfl, rfl, rfl, rfl, rfl, rfl, rfl, trivial⟩ rfl rfl) ?_)) ?_
  rotate_left
  · rintro ⟨x46, h⟩ env st hs
    replace h : g_newellaw06_OrderNumbers.k45 n a0 a1 x46 = some r := h
    unfold g_newellaw06_OrderNumbers.k45 at h
    refine WP_sub hs ?_
    try dsimp only
    refine WP_seq ?_
    refine vcc_sound _ _ _ tabOk (by exact rfl) ?_
    obtain ⟨y47, hy47, h⟩ := bind_some h
    repeat (first | refine Ob.mk (by first | rfl | omega | assumption | exact ⟨rfl, rfl, (List.length_map _).symm⟩ | exact ⟨rfl, rfl, by rw [List.length_map]; omega⟩) ?_ | refine Br.t ?_ | refine Br.f ?_)
    refine CallD.mk _ _ (g_newellaw06_awake.ok n y47 hy47) (by exact trivial) ?_
    repeat (first | refine Ob.mk (by first | rfl | omega | assumption | exact ⟨rfl, rfl, (List.length_map _).symm⟩ | exact ⟨rfl, rfl, by rw [List.length_map]; omega⟩) ?_ | refine Br.t ?_ | refine Br.f ?_)
    refine Br.mk (fun b48 => ?_) (fun b48 => ?_)
    · replace h := bif_t b48 h
      obtain ⟨y49, hy49, h⟩ := bind_some h
      repeat (first | refine Ob.mk (by first | rfl | omega | assumption | exact ⟨rfl, rfl, (List.length_map _).symm⟩ | exact ⟨rfl, rfl, by rw [List.length_map]; omega⟩) ?_ | refine Br.t ?_ | refine Br.f ?_)
      refine CallD.mk _ _ (g_newellaw06_OrderNumbers_1.ok n a0 y49 hy49) (by exact ⟨DLe.refl _, trivial⟩) ?_
      obtain ⟨y50, hy50, h⟩ := bind_some h
      repeat (first | refine Ob.mk (by first | rfl | omega | assumption | exact ⟨rfl, rfl, (List.length_map _).symm⟩ | exact ⟨rfl, rfl, by rw [List.length_map]; omega⟩) ?_ | refine Br.t ?_ | refine Br.f ?_)
      refine CallD.mk _ _ (g_newellaw06_OrderNumbers_1.ok n a1 y50 hy50) (by exact ⟨DLe.refl _, trivial⟩) ?_
      obtain ⟨y51, hy51, h⟩ := bind_some h
      repeat (first | refine Ob.mk (by first | rfl | omega | assumption | exact ⟨rfl, rfl, (List.length_map _).symm⟩ | exact ⟨rfl, rfl, by rw [List.length_map]; omega⟩) ?_ | refine Br.t ?_ | refine Br.f ?_)
      refine CallD.mk _ _ (g_order_Compare.ok n y49 y50 y51 hy51) (by exact ⟨DLe.refl _, DLe.refl _, trivial⟩) ?_
      repeat (first | refine Ob.mk (by first | rfl | omega | assumption | exact ⟨rfl, rfl, (List.length_map _).symm⟩ | exact ⟨rfl, rfl, by rw [List.length_map]; omega⟩) ?_ | refine Br.t ?_ | refine Br.f ?_)
      refine WP_ret ?_
      obtain rfl := Option.some.inj h
      repeat (first | refine Ob.mk (by first | rfl | omega | assumption | exact ⟨rfl, rfl, (List.length_map _).symm⟩ | exact ⟨rfl, rfl, by rw [List.length_map]; omega⟩) ?_ | refine Br.t ?_ | refine Br.f ?_)
      exact ⟨DLe.refl _, trivial⟩
    · replace h := bif_f b48 h
      repeat (first | refine Ob.mk (by first | rfl | omega | assumption | exact ⟨rfl, rfl, (List.length_map _).symm⟩ | exact ⟨rfl, rfl, by rw [List.length_map]; omega⟩) ?_ | refine Br.t ?_ | refine Br.f ?_)
      refine WP_ret ?_
      obtain rfl := Option.some.inj h
      repeat (first | refine Ob.mk (by first | rfl | omega | assumption | exact ⟨rfl, rfl, (List.length_map _).symm⟩ | exact ⟨rfl, rfl, by rw [List.length_map]; omega⟩) ?_ | refine Br.t ?_ | refine Br.f ?_)
      exact ⟨DLe.refl _, trivial⟩
  rintro ⟨⟨m45, x52, x53⟩, h⟩
  cases m45 with
  | zero => exact nomatch (show (none : Option (Bool)) = some r from h)
  | succ m45 =>
    replace h : g_newellaw06_OrderNumbers.l45b n a0 a1 (g_newellaw06_OrderNumbers.l45 n a0 a1 m45) x52 x53 = some r := h
    unfold g_newellaw06_OrderNumbers.l45b at h
    try dsimp only
    refine WP_seq ?_
    refine WP_seq ?_
    refine vcc_sound _ _ _ tabOk (by exact rfl) ?_
    repeat (first | refine Ob.mk (by first | rfl | omega | assumption | exact ⟨rfl, rfl, (List.length_map _).symm⟩ | exact ⟨rfl, rfl, by rw [List.length_map]; omega⟩) ?_ | refine Br.t ?_ | refine Br.f ?_)
    refine Br.mk (fun b56 => ?_) (fun b56 => ?_)
    · replace h := bif_t b56 h
      repeat (first | refine Ob.mk (by first | rfl | omega | assumption | exact ⟨rfl, rfl, (List.length_map _).symm⟩ | exact ⟨rfl, rfl, by rw [List.length_map]; omega⟩) ?_ | refine Br.t ?_ | refine Br.f ?_)
      refine vcc_sound _ _ _ tabOk (by exact rfl) ?_
      repeat (first | refine Ob.mk (by first | rfl | omega | assumption | exact ⟨rfl, rfl, (List.length_map _).symm⟩ | exact ⟨rfl, rfl, by rw [List.length_map]; omega⟩) ?_ | refine Br.t ?_ | refine Br.f ?_)
      refine Br.mk (fun b57 => ?_) (fun b57 => ?_)
      · replace h := bif_t b57 h
        refine WP_skip ?_
        refine WP_seq ?_
        refine WP_block ?_
        refine WP_seq ?_
        refine vcc_sound _ _ _ tabOk (by exact rfl) ?_
        repeat (first | refine Ob.mk (by first | rfl | omega | assumption | exact ⟨rfl, rfl, (List.length_map _).symm⟩ | exact ⟨rfl, rfl, by rw [List.length_map]; omega⟩) ?_ | refine Br.t ?_ | refine Br.f ?_)
        refine WP_seq_cut (α := {p : Int // g_newellaw06_OrderNumbers.k61 n a1 x52 x53 (g_newellaw06_OrderNumbers.l45 n a0 a1 m45) p = some r}) (fun p => ofL [(0, .d (.tl Int 1 encInt (0 : Int) a0)), (1, .d (.tl Int 1 encInt (0 : Int) a1)), (5, fnAV 15), (6, .int x52), (7, .int x53), (8, .int p.1), (9, .int 0), (13, .int x52), (14, .bool (x52 == 0))]) (fun p => []) ?_ ?_
        rotate_left
        · rintro ⟨x60, h⟩
          replace h : g_newellaw06_OrderNumbers.k61 n a1 x52 x53 (g_newellaw06_OrderNumbers.l45 n a0 a1 m45) x60 = some r := h
          unfold g_newellaw06_OrderNumbers.k61 at h
          try dsimp only
          refine WP_seq_cut (α := {p : Int // g_newellaw06_OrderNumbers.k65 n x52 x53 (g_newellaw06_OrderNumbers.l45 n a0 a1 m45) x60 p = some r}) (fun p => ofL [(0, .d (.tl Int 1 encInt (0 : Int) a0)), (1, .d (.tl Int 1 encInt (0 : Int) a1)), (5, fnAV 15), (6, .int x52), (7, .int x53), (8, .int x60), (9, .int p.1), (13, .int x52), (14, .bool (x52 == 0))]) (fun p => []) ?_ ?_
          rotate_left
          · rintro ⟨x64, h⟩
            replace h : g_newellaw06_OrderNumbers.k65 n x52 x53 (g_newellaw06_OrderNumbers.l45 n a0 a1 m45) x60 x64 = some r := h
            unfold g_newellaw06_OrderNumbers.k65 at h
            try dsimp only
            refine WP_seq ?_
            refine vcc_sound _ _ _ tabOk (by exact rfl) ?_
            repeat (first | refine Ob.mk (by first | rfl | omega | assumption | exact ⟨rfl, rfl, (List.length_map _).symm⟩ | exact ⟨rfl, rfl, by rw [List.length_map]; omega⟩) ?_ | refine Br.t ?_ | refine Br.f ?_)
            refine vcc_sound _ _ _ tabOk (by exact rfl) ?_
            repeat (first | refine Ob.mk (by first | rfl | omega | assumption | exact ⟨rfl, rfl, (List.length_map _).symm⟩ | exact ⟨rfl, rfl, by rw [List.length_map]; omega⟩) ?_ | refine Br.t ?_ | refine Br.f ?_)
            refine Br.mk (fun b66 => ?_) (fun b66 => ?_)
            · replace h := bif_t b66 h
              refine vcc_sound _ _ _ tabOk (by exact rfl) ?_
              repeat (first | refine Ob.mk (by first | rfl | omega | assumption | exact ⟨rfl, rfl, (List.length_map _).symm⟩ | exact ⟨rfl, rfl, by rw [List.length_map]; omega⟩) ?_ | refine Br.t ?_ | refine Br.f ?_)
              refine vcc_sound _ _ _ tabOk (by exact rfl) ?_
              obtain ⟨c67, h⟩ := chk_some h
              repeat (first | refine Ob.mk (by first | rfl | omega | assumption | exact ⟨rfl, rfl, (List.length_map _).symm⟩ | exact ⟨rfl, rfl, by rw [List.length_map]; omega⟩) ?_ | refine Br.t ?_ | refine Br.f ?_)
              repeat (first | refine Ob.mk (by first | rfl | omega | assumption | exact ⟨rfl, rfl, (List.length_map _).symm⟩ | exact ⟨rfl, rfl, by rw [List.length_map]; omega⟩) ?_ | refine Br.t ?_ | refine Br.f ?_)
              exact ⟨⟨(m45, (-1), (x53 + 1)), h⟩, Nat.lt_succ_self _, Sub.ofL _ _ (Nat.zero_le _) ⟨rfl, rfl, rfl, rfl, rfl, rfl, rfl, rfl, rfl, rfl, trivial⟩ rfl rfl⟩
            · replace h := bif_f b66 h
              refine WP_seq ?_
              refine vcc_sound _ _ _ tabOk (by exact rfl) ?_
              repeat (first | refine Ob.mk (by first | rfl | omega | assumption | exact ⟨rfl, rfl, (List.length_map _).symm⟩ | exact ⟨rfl, rfl, by rw [List.length_map]; omega⟩) ?_ | refine Br.t ?_ | refine Br.f ?_)
              refine vcc_sound _ _ _ tabOk (by exact rfl) ?_
              repeat (first | refine Ob.mk (by first | rfl | omega | assumption | exact ⟨rfl, rfl, (List.length_map _).symm⟩ | exact ⟨rfl, rfl, by rw [List.length_map]; omega⟩) ?_ | refine Br.t ?_ | refine Br.f ?_)
              refine Br.mk (fun b68 => ?_) (fun b68 => ?_)
              · replace h := bif_t b68 h
                refine vcc_sound _ _ _ tabOk (by exact rfl) ?_
                repeat (first | refine Ob.mk (by first | rfl | omega | assumption | exact ⟨rfl, rfl, (List.length_map _).symm⟩ | exact ⟨rfl, rfl, by rw [List.length_map]; omega⟩) ?_ | refine Br.t ?_ | refine Br.f ?_)
                refine vcc_sound _ _ _ tabOk (by exact rfl) ?_
                obtain ⟨c69, h⟩ := chk_some h
                repeat (first | refine Ob.mk (by first | rfl | omega | assumption | exact ⟨rfl, rfl, (List.length_map _).symm⟩ | exact ⟨rfl, rfl, by rw [List.length_map]; omega⟩) ?_ | refine Br.t ?_ | refine Br.f ?_)
                repeat (first | refine Ob.mk (by first | rfl | omega | assumption | exact ⟨rfl, rfl, (List.length_map _).symm⟩ | exact ⟨rfl, rfl, by rw [List.length_map]; omega⟩) ?_ | refine Br.t ?_ | refine Br.f ?_)
                exact ⟨⟨(m45, 1, (x53 + 1)), h⟩, Nat.lt_succ_self _, Sub.ofL _ _ (Nat.zero_le _) ⟨rfl, rfl, rfl, rfl, rfl, rfl, rfl, rfl, rfl, rfl, trivial⟩ rfl rfl⟩
              · replace h := bif_f b68 h
                refine WP_skip ?_
                refine vcc_sound _ _ _ tabOk (by exact rfl) ?_
                obtain ⟨c70, h⟩ := chk_some h
                repeat (first | refine Ob.mk (by first | rfl | omega | assumption | exact ⟨rfl, rfl, (List.length_map _).symm⟩ | exact ⟨rfl, rfl, by rw [List.length_map]; omega⟩) ?_ | refine Br.t ?_ | refine Br.f ?_)
                repeat (first | refine Ob.mk (by first | rfl | omega | assumption | exact ⟨rfl, rfl, (List.length_map _).symm⟩ | exact ⟨rfl, rfl, by rw [List.length_map]; omega⟩) ?_ | refine Br.t ?_ | refine Br.f ?_)
                exact ⟨⟨(m45, x52, (x53 + 1)), h⟩, Nat.lt_succ_self _, Sub.ofL _ _ (Nat.zero_le _) ⟨rfl, rfl, rfl, rfl, rfl, rfl, rfl, rfl, rfl, rfl, trivial⟩ rfl rfl⟩
          refine WP_seq ?_
          refine vcc_sound _ _ _ tabOk (by exact rfl) ?_
          repeat (first | refine Ob.mk (by first | rfl | omega | assumption | exact ⟨rfl, rfl, (List.length_map _).symm⟩ | exact ⟨rfl, rfl, by rw [List.length_map]; omega⟩) ?_ | refine Br.t ?_ | refine Br.f ?_)
          refine vcc_sound _ _ _ tabOk (by exact rfl) ?_
          repeat (first | refine Ob.mk (by first | rfl | omega | assumption | exact ⟨rfl, rfl, (List.length_map _).symm⟩ | exact ⟨rfl, rfl, by rw [List.length_map]; omega⟩) ?_ | refine Br.t ?_ | refine Br.f ?_)
          refine Br.mk (fun b71 => ?_) (fun b71 => ?_)
          · replace h := bif_t b71 h
            refine vcc_sound _ _ _ tabOk (by exact rfl) ?_
            obtain ⟨c72, h⟩ := chk_some h
            repeat (first | refine Ob.mk (by first | rfl | omega | assumption | exact ⟨rfl, rfl, (List.length_map _).symm⟩ | exact ⟨rfl, rfl, by rw [List.length_map]; omega⟩) ?_ | refine Br.t ?_ | refine Br.f ?_)
            repeat (first | refine Ob.mk (by first | rfl | omega | assumption | exact ⟨rfl, rfl, (List.length_map _).symm⟩ | exact ⟨rfl, rfl, by rw [List.length_map]; omega⟩) ?_ | refine Br.t ?_ | refine Br.f ?_)
            exact ⟨⟨(IntKind.wrap .i64 ((IntKind.wrap .u64 (a1.getD x53.toNat (0 : Int))).tmod 2000)), h⟩, Sub.ofL _ _ (Nat.zero_le _) ⟨rfl, rfl, rfl, rfl, rfl, rfl, rfl, rfl, rfl, rfl, rfl, rfl, rfl, rfl, rfl, rfl, rfl, rfl, trivial⟩ rfl rfl⟩
          · replace h := bif_f b71 h
            refine WP_skip ?_
            repeat (first | refine Ob.mk (by first | rfl | omega | assumption | exact ⟨rfl, rfl, (List.length_map _).symm⟩ | exact ⟨rfl, rfl, by rw [List.length_map]; omega⟩) ?_ | refine Br.t ?_ | refine Br.f ?_)
            exact ⟨⟨0, h⟩, Sub.ofL _ _ (Nat.zero_le _) ⟨rfl, rfl, rfl, rfl, rfl, rfl, rfl, rfl, rfl, rfl, rfl, rfl, rfl, rfl, rfl, rfl, rfl, rfl, trivial⟩ rfl rfl⟩
        refine WP_seq ?_
        refine vcc_sound _ _ _ tabOk (by exact rfl) ?_
        repeat (first | refine Ob.mk (by first | rfl | omega | assumption | exact ⟨rfl, rfl, (List.length_map _).symm⟩ | exact ⟨rfl, rfl, by rw [List.length_map]; omega⟩) ?_ | refine Br.t ?_ | refine Br.f ?_)
        refine vcc_sound _ _ _ tabOk (by exact rfl) ?_
        repeat (first | refine Ob.mk (by first | rfl | omega | assumption | exact ⟨rfl, rfl, (List.length_map _).symm⟩ | exact ⟨rfl, rfl, by rw [List.length_map]; omega⟩) ?_ | refine Br.t ?_ | refine Br.f ?_)
        refine Br.mk (fun b73 => ?_) (fun b73 => ?_)
        · replace h := bif_t b73 h
          refine vcc_sound _ _ _ tabOk (by exact rfl) ?_
          obtain ⟨c74, h⟩ := chk_some h
          repeat (first | refine Ob.mk (by first | rfl | omega | assumption | exact ⟨rfl, rfl, (List.length_map _).symm⟩ | exact ⟨rfl, rfl, by rw [List.length_map]; omega⟩) ?_ | refine Br.t ?_ | refine Br.f ?_)
          repeat (first | refine Ob.mk (by first | rfl | omega | assumption | exact ⟨rfl, rfl, (List.length_map _).symm⟩ | exact ⟨rfl, rfl, by rw [List.length_map]; omega⟩) ?_ | refine Br.t ?_ | refine Br.f ?_)
          exact ⟨⟨(IntKind.wrap .i64 ((IntKind.wrap .u64 (a0.getD x53.toNat (0 : Int))).tmod 2000)), h⟩, Sub.ofL _ _ (Nat.zero_le _) ⟨rfl, rfl, rfl, rfl, rfl, rfl, rfl, rfl, rfl, rfl, rfl, rfl, rfl, rfl, rfl, rfl, rfl, rfl, trivial⟩ rfl rfl⟩
        · replace h := bif_f b73 h
          refine WP_skip ?_
          repeat (first | refine Ob.mk (by first | rfl | omega | assumption | exact ⟨rfl, rfl, (List.length_map _).symm⟩ | exact ⟨rfl, rfl, by rw [List.length_map]; omega⟩) ?_ | refine Br.t ?_ | refine Br.f ?_)
          exact ⟨⟨0, h⟩, Sub.ofL _ _ (Nat.zero_le _) ⟨rfl, rfl, rfl, rfl, rfl, rfl, rfl, rfl, rfl, rfl, rfl, rfl, rfl, rfl, rfl, rfl, rfl, rfl, trivial⟩ rfl rfl⟩
      · replace h := bif_f b57 h
        refine WP_exit ?_
        repeat (first | refine Ob.mk (by first | rfl | omega | assumption | exact ⟨rfl, rfl, (List.length_map _).symm⟩ | exact ⟨rfl, rfl, by rw [List.length_map]; omega⟩) ?_ | refine Br.t ?_ | refine Br.f ?_)
        exact ⟨⟨x52, h⟩, Sub.ofL _ _ (Nat.zero_le _) ⟨rfl, rfl, rfl, rfl, rfl, rfl, rfl, rfl, trivial⟩ rfl rfl⟩
    · replace h := bif_f b56 h
      repeat (first | refine Ob.mk (by first | rfl | omega | assumption | exact ⟨rfl, rfl, (List.length_map _).symm⟩ | exact ⟨rfl, rfl, by rw [List.length_map]; omega⟩) ?_ | refine Br.t ?_ | refine Br.f ?_)
      refine vcc_sound _ _ _ tabOk (by exact rfl) ?_
      repeat (first | refine Ob.mk (by first | rfl | omega | assumption | exact ⟨rfl, rfl, (List.length_map _).symm⟩ | exact ⟨rfl, rfl, by rw [List.length_map]; omega⟩) ?_ | refine Br.t ?_ | refine Br.f ?_)
      refine WP_exit ?_
      repeat (first | refine Ob.mk (by first | rfl | omega | assumption | exact ⟨rfl, rfl, (List.length_map _).symm⟩ | exact ⟨rfl, rfl, by rw [List.length_map]; omega⟩) ?_ | refine Br.t ?_ | refine Br.f ?_)
      exact ⟨⟨x52, h⟩, Sub.ofL _ _ (Nat.zero_le _) ⟨rfl, rfl, rfl, rfl, rfl, rfl, rfl, rfl, trivial⟩ rfl rfl⟩

/-! ### newel/newellaw06.OrderRanks -/
def g_newellaw06_OrderRanks.k4 (n : Nat) (a0 : Int) (a1 : Int) (a2 : Int) (x3 : Int) : Option (Bool) :=
  chk (in64 ((1 : Int) + (IntKind.wrap .i64 ((IntKind.wrap .u64 a2).tmod 100)))) <|
  (g_newelhelp_Digits n ((1 : Int) + (IntKind.wrap .i64 ((IntKind.wrap .u64 a2).tmod 100)))).bind fun y6 =>
  (g_newellaw06_awake n).bind fun y7 =>
  bif y7 then (
    chk (0 ≤ (IntKind.wrap .i64 ((IntKind.wrap .u64 a0).tmod 10)) ∧ (IntKind.wrap .i64 ((IntKind.wrap .u64 a0).tmod 10)) < (([(⟨#[45, 97, 108, 112, 104, 97]⟩ : Str), (⟨#[45, 98, 101, 116, 97]⟩ : Str), (⟨#[45, 109, 105, 108, 101, 115, 116, 111, 110, 101]⟩ : Str), (⟨#[45, 114, 99]⟩ : Str), (⟨#[45, 115, 110, 97, 112, 115, 104, 111, 116]⟩ : Str), emp, (⟨#[45, 115, 112]⟩ : Str), (⟨#[45, 120]⟩ : Str), (⟨#[45, 49]⟩ : Str), (⟨#[46, 49]⟩ : Str)]).length : Int)) <|
    chk (textOk (y6.size + (([(⟨#[45, 97, 108, 112, 104, 97]⟩ : Str), (⟨#[45, 98, 101, 116, 97]⟩ : Str), (⟨#[45, 109, 105, 108, 101, 115, 116, 111, 110, 101]⟩ : Str), (⟨#[45, 114, 99]⟩ : Str), (⟨#[45, 115, 110, 97, 112, 115, 104, 111, 116]⟩ : Str), emp, (⟨#[45, 115, 112]⟩ : Str), (⟨#[45, 120]⟩ : Str), (⟨#[45, 49]⟩ : Str), (⟨#[46, 49]⟩ : Str)]).getD ((IntKind.wrap .i64 ((IntKind.wrap .u64 a0).tmod 10)).toNat) emp).size)) <|
    chk (0 ≤ (IntKind.wrap .i64 ((IntKind.wrap .u64 a1).tmod 10)) ∧ (IntKind.wrap .i64 ((IntKind.wrap .u64 a1).tmod 10)) < (([(⟨#[45, 97, 108, 112, 104, 97]⟩ : Str), (⟨#[45, 98, 101, 116, 97]⟩ : Str), (⟨#[45, 109, 105, 108, 101, 115, 116, 111, 110, 101]⟩ : Str), (⟨#[45, 114, 99]⟩ : Str), (⟨#[45, 115, 110, 97, 112, 115, 104, 111, 116]⟩ : Str), emp, (⟨#[45, 115, 112]⟩ : Str), (⟨#[45, 120]⟩ : Str), (⟨#[45, 49]⟩ : Str), (⟨#[46, 49]⟩ : Str)]).length : Int)) <|
    chk (textOk (y6.size + (([(⟨#[45, 97, 108, 112, 104, 97]⟩ : Str), (⟨#[45, 98, 101, 116, 97]⟩ : Str), (⟨#[45, 109, 105, 108, 101, 115, 116, 111, 110, 101]⟩ : Str), (⟨#[45, 114, 99]⟩ : Str), (⟨#[45, 115, 110, 97, 112, 115, 104, 111, 116]⟩ : Str), emp, (⟨#[45, 115, 112]⟩ : Str), (⟨#[45, 120]⟩ : Str), (⟨#[45, 49]⟩ : Str), (⟨#[46, 49]⟩ : Str)]).getD ((IntKind.wrap .i64 ((IntKind.wrap .u64 a1).tmod 10)).toNat) emp).size)) <|
    (g_order_Compare n (y6 ++ (([(⟨#[45, 97, 108, 112, 104, 97]⟩ : Str), (⟨#[45, 98, 101, 116, 97]⟩ : Str), (⟨#[45, 109, 105, 108, 101, 115, 116, 111, 110, 101]⟩ : Str), (⟨#[45, 114, 99]⟩ : Str), (⟨#[45, 115, 110, 97, 112, 115, 104, 111, 116]⟩ : Str), emp, (⟨#[45, 115, 112]⟩ : Str), (⟨#[45, 120]⟩ : Str), (⟨#[45, 49]⟩ : Str), (⟨#[46, 49]⟩ : Str)]).getD ((IntKind.wrap .i64 ((IntKind.wrap .u64 a0).tmod 10)).toNat) emp)) (y6 ++ (([(⟨#[45, 97, 108, 112, 104, 97]⟩ : Str), (⟨#[45, 98, 101, 116, 97]⟩ : Str), (⟨#[45, 109, 105, 108, 101, 115, 116, 111, 110, 101]⟩ : Str), (⟨#[45, 114, 99]⟩ : Str), (⟨#[45, 115, 110, 97, 112, 115, 104, 111, 116]⟩ : Str), emp, (⟨#[45, 115, 112]⟩ : Str), (⟨#[45, 120]⟩ : Str), (⟨#[45, 49]⟩ : Str), (⟨#[46, 49]⟩ : Str)]).getD ((IntKind.wrap .i64 ((IntKind.wrap .u64 a1).tmod 10)).toNat) emp))).bind fun y13 =>
    some (y13 == x3)
  ) else (
    some false
  )
def g_newellaw06_OrderRanks (n : Nat) (a0 : Int) (a1 : Int) (a2 : Int) : Option (Bool) :=
  bif (decide ((IntKind.wrap .i64 ((IntKind.wrap .u64 a0).tmod 10)) < (IntKind.wrap .i64 ((IntKind.wrap .u64 a1).tmod 10)))) then (
    g_newellaw06_OrderRanks.k4 n a0 a1 a2 (-1)
  ) else (
    bif (decide ((IntKind.wrap .i64 ((IntKind.wrap .u64 a0).tmod 10)) > (IntKind.wrap .i64 ((IntKind.wrap .u64 a1).tmod 10)))) then (
      g_newellaw06_OrderRanks.k4 n a0 a1 a2 1
    ) else (
      g_newellaw06_OrderRanks.k4 n a0 a1 a2 0
    )
  )
theorem g_newellaw06_OrderRanks.ok (n : Nat) (a0 : Int) (a1 : Int) (a2 : Int) (r : Bool) (h : g_newellaw06_OrderRanks n a0 a1 a2 = some r) : Impl Tryd.prog 5 [.one (dint a0), .one (dint a1), .one (dint a2)] [.one (dbool r)] := by
  refine impl_wp tabOk Tryd.func5 rfl rfl (by kernel_rfl) ?_
  unfold g_newellaw06_OrderRanks at h
  refine WP_seq ?_
  refine vcc_sound _ _ _ tabOk (by exact rfl) ?_
  repeat (first | refine Ob.mk (by first | rfl | omega | assumption | exact ⟨rfl, rfl, (List.length_map _).symm⟩ | exact ⟨rfl, rfl, by rw [List.length_map]; omega⟩) ?_ | refine Br.t ?_ | refine Br.f ?_)
  refine WP_seq ?_
  refine vcc_sound _ _ _ tabOk (by exact rfl) ?_
  repeat (first | refine Ob.mk (by first | rfl | omega | assumption | exact ⟨rfl, rfl, (List.length_map _).symm⟩ | exact ⟨rfl, rfl, by rw [List.length_map]; omega⟩) ?_ | refine Br.t ?_ | refine Br.f ?_)
  refine NewS.ty encStr emp [(⟨#[45, 97, 108, 112, 104, 97]⟩ : Str), (⟨#[45, 98, 101, 116, 97]⟩ : Str), (⟨#[45, 109, 105, 108, 101, 115, 116, 111, 110, 101]⟩ : Str), (⟨#[45, 114, 99]⟩ : Str), (⟨#[45, 115, 110, 97, 112, 115, 104, 111, 116]⟩ : Str), emp, (⟨#[45, 115, 112]⟩ : Str), (⟨#[45, 120]⟩ : Str), (⟨#[45, 49]⟩ : Str), (⟨#[46, 49]⟩ : Str)] rfl ?_
  repeat (first | refine Ob.mk (by first | rfl | omega | assumption | exact ⟨rfl, rfl, (List.length_map _).symm⟩ | exact ⟨rfl, rfl, by rw [List.length_map]; omega⟩) ?_ | refine Br.t ?_ | refine Br.f ?_)
  refine WP_seq ?_
  refine vcc_sound _ _ _ tabOk (by exact rfl) ?_
  repeat (first | refine Ob.mk (by first | rfl | omega | assumption | exact ⟨rfl, rfl, (List.length_map _).symm⟩ | exact ⟨rfl, rfl, by rw [List.length_map]; omega⟩) ?_ | refine Br.t ?_ | refine Br.f ?_)
  refine WP_seq ?_
  refine vcc_sound _ _ _ tabOk (by exact rfl) ?_
  repeat (first | refine Ob.mk (by first | rfl | omega | assumption | exact ⟨rfl, rfl, (List.length_map _).symm⟩ | exact ⟨rfl, rfl, by rw [List.length_map]; omega⟩) ?_ | refine Br.t ?_ | refine Br.f ?_)
  refine WP_seq_cut (α := {p : Int // g_newellaw06_OrderRanks.k4 n a0 a1 a2 p = some r}) (fun p => ofL [(0, .int (IntKind.wrap .i64 ((IntKind.wrap .u64 a0).tmod 10))), (1, .int (IntKind.wrap .i64 ((IntKind.wrap .u64 a1).tmod 10))), (2, .int a2), (7, .d (.tl Str 1 encStr emp ([(⟨#[45, 97, 108, 112, 104, 97]⟩ : Str), (⟨#[45, 98, 101, 116, 97]⟩ : Str), (⟨#[45, 109, 105, 108, 101, 115, 116, 111, 110, 101]⟩ : Str), (⟨#[45, 114, 99]⟩ : Str), (⟨#[45, 115, 110, 97, 112, 115, 104, 111, 116]⟩ : Str), emp, (⟨#[45, 115, 112]⟩ : Str), (⟨#[45, 120]⟩ : Str), (⟨#[45, 49]⟩ : Str), (⟨#[46, 49]⟩ : Str)]))), (8, .int p.1)]) (fun p => []) ?_ ?_
  rotate_left
  · rintro ⟨x3, h⟩
    replace h : g_newellaw06_OrderRanks.k4 n a0 a1 a2 x3 = some r := h
    unfold g_newellaw06_OrderRanks.k4 at h
    try dsimp only
    refine WP_seq ?_
    refine vcc_sound _ _ _ tabOk (by exact rfl) ?_
    obtain ⟨c5, h⟩ := chk_some h
    obtain ⟨y6, hy6, h⟩ := bind_some h
    repeat (first | refine Ob.mk (by first | rfl | omega | assumption | exact ⟨rfl, rfl, (List.length_map _).symm⟩ | exact ⟨rfl, rfl, by rw [List.length_map]; omega⟩) ?_ | refine Br.t ?_ | refine Br.f ?_)
    refine CallD.mk _ _ (g_newelhelp_Digits.ok n ((1 : Int) + (IntKind.wrap .i64 ((IntKind.wrap .u64 a2).tmod 100))) y6 hy6) (by exact ⟨DLe.refl _, trivial⟩) ?_
    repeat (first | refine Ob.mk (by first | rfl | omega | assumption | exact ⟨rfl, rfl, (List.length_map _).symm⟩ | exact ⟨rfl, rfl, by rw [List.length_map]; omega⟩) ?_ | refine Br.t ?_ | refine Br.f ?_)
    refine WP_seq ?_
    refine cdraw1 tabOk (by kernel_rfl) ?_
    obtain ⟨y7, hy7, h⟩ := bind_some h
    repeat (first | refine Ob.mk (by first | rfl | omega | assumption | exact ⟨rfl, rfl, (List.length_map _).symm⟩ | exact ⟨rfl, rfl, by rw [List.length_map]; omega⟩) ?_ | refine Br.t ?_ | refine Br.f ?_)
    refine CallD.mk _ _ (g_newellaw06_awake.ok n y7 hy7) (by exact trivial) ?_
    repeat (first | refine Ob.mk (by first | rfl | omega | assumption | exact ⟨rfl, rfl, (List.length_map _).symm⟩ | exact ⟨rfl, rfl, by rw [List.length_map]; omega⟩) ?_ | refine Br.t ?_ | refine Br.f ?_)
    refine Br.mk (fun b8 => ?_) (fun b8 => ?_)
    · replace h := bif_t b8 h
      obtain ⟨c9, h⟩ := chk_some h
      obtain ⟨c10, h⟩ := chk_some h
      obtain ⟨c11, h⟩ := chk_some h
      obtain ⟨c12, h⟩ := chk_some h
      obtain ⟨y13, hy13, h⟩ := bind_some h
      repeat (first | refine Ob.mk (by first | rfl | omega | assumption | exact ⟨rfl, rfl, (List.length_map _).symm⟩ | exact ⟨rfl, rfl, by rw [List.length_map]; omega⟩) ?_ | refine Br.t ?_ | refine Br.f ?_)
      refine CallD.mk _ _ (g_order_Compare.ok n (y6 ++ (([(⟨#[45, 97, 108, 112, 104, 97]⟩ : Str), (⟨#[45, 98, 101, 116, 97]⟩ : Str), (⟨#[45, 109, 105, 108, 101, 115, 116, 111, 110, 101]⟩ : Str), (⟨#[45, 114, 99]⟩ : Str), (⟨#[45, 115, 110, 97, 112, 115, 104, 111, 116]⟩ : Str), emp, (⟨#[45, 115, 112]⟩ : Str), (⟨#[45, 120]⟩ : Str), (⟨#[45, 49]⟩ : Str), (⟨#[46, 49]⟩ : Str)]).getD ((IntKind.wrap .i64 ((IntKind.wrap .u64 a0).tmod 10)).toNat) emp)) (y6 ++ (([(⟨#[45, 97, 108, 112, 104, 97]⟩ : Str), (⟨#[45, 98, 101, 116, 97]⟩ : Str), (⟨#[45, 109, 105, 108, 101, 115, 116, 111, 110, 101]⟩ : Str), (⟨#[45, 114, 99]⟩ : Str), (⟨#[45, 115, 110, 97, 112, 115, 104, 111, 116]⟩ : Str), emp, (⟨#[45, 115, 112]⟩ : Str), (⟨#[45, 120]⟩ : Str), (⟨#[45, 49]⟩ : Str), (⟨#[46, 49]⟩ : Str)]).getD ((IntKind.wrap .i64 ((IntKind.wrap .u64 a1).tmod 10)).toNat) emp)) y13 hy13) (by exact ⟨DLe.refl _, DLe.refl _, trivial⟩) ?_
      repeat (first | refine Ob.mk (by first | rfl | omega | assumption | exact ⟨rfl, rfl, (List.length_map _).symm⟩ | exact ⟨rfl, rfl, by rw [List.length_map]; omega⟩) ?_ | refine Br.t ?_ | refine Br.f ?_)
      refine WP_ret ?_
      obtain rfl := Option.some.inj h
      repeat (first | refine Ob.mk (by first | rfl | omega | assumption | exact ⟨rfl, rfl, (List.length_map _).symm⟩ | exact ⟨rfl, rfl, by rw [List.length_map]; omega⟩) ?_ | refine Br.t ?_ | refine Br.f ?_)
      exact ⟨DLe.refl _, trivial⟩
    · replace h := bif_f b8 h
      repeat (first | refine Ob.mk (by first | rfl | omega | assumption | exact ⟨rfl, rfl, (List.length_map _).symm⟩ | exact ⟨rfl, rfl, by rw [List.length_map]; omega⟩) ?_ | refine Br.t ?_ | refine Br.f ?_)
      refine WP_ret ?_
      obtain rfl := Option.some.inj h
      repeat (first | refine Ob.mk (by first | rfl | omega | assumption | exact ⟨rfl, rfl, (List.length_map _).symm⟩ | exact ⟨rfl, rfl, by rw [List.length_map]; omega⟩) ?_ | refine Br.t ?_ | refine Br.f ?_)
      exact ⟨DLe.refl _, trivial⟩
  refine WP_seq ?_
  refine vcc_sound _ _ _ tabOk (by exact rfl) ?_
  repeat (first | refine Ob.mk (by first | rfl | omega | assumption | exact ⟨rfl, rfl, (List.length_map _).symm⟩ | exact ⟨rfl, rfl, by rw [List.length_map]; omega⟩) ?_ | refine Br.t ?_ | refine Br.f ?_)
  refine vcc_sound _ _ _ tabOk (by exact rfl) ?_
  repeat (first | refine Ob.mk (by first | rfl | omega | assumption | exact ⟨rfl, rfl, (List.length_map _).symm⟩ | exact ⟨rfl, rfl, by rw [List.length_map]; omega⟩) ?_ | refine Br.t ?_ | refine Br.f ?_)
  refine Br.mk (fun b14 => ?_) (fun b14 => ?_)
  · replace h := bif_t b14 h
    refine vcc_sound _ _ _ tabOk (by exact rfl) ?_
    repeat (first | refine Ob.mk (by first | rfl | omega | assumption | exact ⟨rfl, rfl, (List.length_map _).symm⟩ | exact ⟨rfl, rfl, by rw [List.length_map]; omega⟩) ?_ | refine Br.t ?_ | refine Br.f ?_)
    repeat (first | refine Ob.mk (by first | rfl | omega | assumption | exact ⟨rfl, rfl, (List.length_map _).symm⟩ | exact ⟨rfl, rfl, by rw [List.length_map]; omega⟩) ?_ | refine Br.t ?_ | refine Br.f ?_)
    exact ⟨⟨(-1), h⟩, Sub.ofL _ _ (Nat.zero_le _) ⟨rfl, rfl, rfl, rfl, rfl, rfl, rfl, rfl, rfl, rfl, trivial⟩ rfl rfl⟩
  · replace h := bif_f b14 h
    refine WP_seq ?_
    refine vcc_sound _ _ _ tabOk (by exact rfl) ?_
    repeat (first | refine Ob.mk (by first | rfl | omega | assumption | exact ⟨rfl, rfl, (List.length_map _).symm⟩ | exact ⟨rfl, rfl, by rw [List.length_map]; omega⟩) ?_ | refine Br.t ?_ | refine Br.f ?_)
    refine vcc_sound _ _ _ tabOk (by exact rfl) ?_
    repeat (first | refine Ob.mk (by first | rfl | omega | assumption | exact ⟨rfl, rfl, (List.length_map _).symm⟩ | exact ⟨rfl, rfl, by rw [List.length_map]; omega⟩) ?_ | refine Br.t ?_ | refine Br.f ?_)
    refine Br.mk (fun b15 => ?_) (fun b15 => ?_)
    · replace h := bif_t b15 h
      refine vcc_sound _ _ _ tabOk (by exact rfl) ?_
      repeat (first | refine Ob.mk (by first | rfl | omega | assumption | exact ⟨rfl, rfl, (List.length_map _).symm⟩ | exact ⟨rfl, rfl, by rw [List.length_map]; omega⟩) ?_ | refine Br.t ?_ | refine Br.f ?_)
      repeat (first | refine Ob.mk (by first | rfl | omega | assumption | exact ⟨rfl, rfl, (List.length_map _).symm⟩ | exact ⟨rfl, rfl, by rw [List.length_map]; omega⟩) ?_ | refine Br.t ?_ | refine Br.f ?_)
      exact ⟨⟨1, h⟩, Sub.ofL _ _ (Nat.zero_le _) ⟨rfl, rfl, rfl, rfl, rfl, rfl, rfl, rfl, rfl, rfl, trivial⟩ rfl rfl⟩
    · replace h := bif_f b15 h
      refine WP_skip ?_
      repeat (first | refine Ob.mk (by first | rfl | omega | assumption | exact ⟨rfl, rfl, (List.length_map _).symm⟩ | exact ⟨rfl, rfl, by rw [List.length_map]; omega⟩) ?_ | refine Br.t ?_ | refine Br.f ?_)
      exact ⟨⟨0, h⟩, Sub.ofL _ _ (Nat.zero_le _) ⟨rfl, rfl, rfl, rfl, rfl, rfl, rfl, rfl, rfl, rfl, trivial⟩ rfl rfl⟩

/-! ### newel/newellaw06.OrderBehind$1 -/
def g_newellaw06_OrderBehind_1 (n : Nat) (a0 : Int) : Option (Str) :=
  (g_newelhelp_Digits n (IntKind.wrap .i64 ((IntKind.wrap .u64 a0).tmod 300))).bind fun y1 =>
  some y1
theorem g_newellaw06_OrderBehind_1.ok (n : Nat) (a0 : Int) (r : Str) (h : g_newellaw06_OrderBehind_1 n a0 = some r) : Impl Tryd.prog 17 [.one (dint a0)] [.one (dstr r)] := by
  refine impl_wp tabOk Tryd.func17 rfl rfl (by kernel_rfl) ?_
  unfold g_newellaw06_OrderBehind_1 at h
  refine WP_seq ?_
  refine vcc_sound _ _ _ tabOk (by exact rfl) ?_
  repeat (first | refine Ob.mk (by first | rfl | omega | assumption | exact ⟨rfl, rfl, (List.length_map _).symm⟩ | exact ⟨rfl, rfl, by rw [List.length_map]; omega⟩) ?_ | refine Br.t ?_ | refine Br.f ?_)
  refine WP_seq ?_
  refine vcc_sound _ _ _ tabOk (by exact rfl) ?_
  obtain ⟨y1, hy1, h⟩ := bind_some h
  repeat (first | refine Ob.mk (by first | rfl | omega | assumption | exact ⟨rfl, rfl, (List.length_map _).symm⟩ | exact ⟨rfl, rfl, by rw [List.length_map]; omega⟩) ?_ | refine Br.t ?_ | refine Br.f ?_)
  refine CallD.mk _ _ (g_newelhelp_Digits.ok n (IntKind.wrap .i64 ((IntKind.wrap .u64 a0).tmod 300)) y1 hy1) (by exact ⟨DLe.refl _, trivial⟩) ?_
  repeat (first | refine Ob.mk (by first | rfl | omega | assumption | exact ⟨rfl, rfl, (List.length_map _).symm⟩ | exact ⟨rfl, rfl, by rw [List.length_map]; omega⟩) ?_ | refine Br.t ?_ | refine Br.f ?_)
  refine WP_ret ?_
  obtain rfl := Option.some.inj h
  repeat (first | refine Ob.mk (by first | rfl | omega | assumption | exact ⟨rfl, rfl, (List.length_map _).symm⟩ | exact ⟨rfl, rfl, by rw [List.length_map]; omega⟩) ?_ | refine Br.t ?_ | refine Br.f ?_)
  exact ⟨DLe.refl _, trivial⟩

/-! ### newel/newellaw06.OrderBehind -/
def g_newellaw06_OrderBehind.k16 (n : Nat) (a3 : Str) (y5 : Str) (y7 : Str) (y9 : Str) (y11 : Str) (x15 : Int) : Option (Bool) :=
  (g_newellaw06_awake n).bind fun y17 =>
  bif y17 then (
    (g_order_Compare n ((y5 ++ (⟨#[46]⟩ : Str)) ++ y7) ((y9 ++ (⟨#[46]⟩ : Str)) ++ y11)).bind fun y19 =>
    bif (y19 == x15) then (
      chk (textOk ((⟨#[55, 46]⟩ : Str).size + ((y5 ++ (⟨#[46]⟩ : Str)) ++ y7).size)) <|
      chk (textOk ((⟨#[55, 46]⟩ : Str).size + ((y9 ++ (⟨#[46]⟩ : Str)) ++ y11).size)) <|
      (g_order_Compare n ((⟨#[55, 46]⟩ : Str) ++ ((y5 ++ (⟨#[46]⟩ : Str)) ++ y7)) ((⟨#[55, 46]⟩ : Str) ++ ((y9 ++ (⟨#[46]⟩ : Str)) ++ y11))).bind fun y23 =>
      bif (y23 == x15) then (
        chk (textOk (a3.size + (⟨#[46, 48]⟩ : Str).size)) <|
        (g_order_Compare n a3 (a3 ++ (⟨#[46, 48]⟩ : Str))).bind fun y26 =>
        bif (y26 == 0) then (
          chk (textOk (a3.size + (⟨#[46, 49]⟩ : Str).size)) <|
          (g_order_Compare n (a3 ++ (⟨#[46, 49]⟩ : Str)) a3).bind fun y29 =>
          some (y29 == 1)
        ) else (
          some false
        )
      ) else (
        some false
      )
    ) else (
      some false
    )
  ) else (
    some false
  )
def g_newellaw06_OrderBehind (n : Nat) (a0 : Int) (a1 : Int) (a2 : Int) (a3 : Str) : Option (Bool) :=
  bif (decide ((a3.size : Int) > 40)) then (
    (g_newellaw06_awake n).bind fun y4 =>
    some y4
  ) else (
    (g_newellaw06_OrderBehind_1 n a0).bind fun y5 =>
    chk (textOk (y5.size + (⟨#[46]⟩ : Str).size)) <|
    (g_newellaw06_OrderBehind_1 n a1).bind fun y7 =>
    chk (textOk ((y5 ++ (⟨#[46]⟩ : Str)).size + y7.size)) <|
    (g_newellaw06_OrderBehind_1 n a0).bind fun y9 =>
    chk (textOk (y9.size + (⟨#[46]⟩ : Str).size)) <|
    (g_newellaw06_OrderBehind_1 n a2).bind fun y11 =>
    chk (textOk ((y9 ++ (⟨#[46]⟩ : Str)).size + y11.size)) <|
    bif (decide (((IntKind.wrap .u64 a1).tmod 300) < ((IntKind.wrap .u64 a2).tmod 300))) then (
      g_newellaw06_OrderBehind.k16 n a3 y5 y7 y9 y11 (-1)
    ) else (
      bif (decide (((IntKind.wrap .u64 a1).tmod 300) > ((IntKind.wrap .u64 a2).tmod 300))) then (
        g_newellaw06_OrderBehind.k16 n a3 y5 y7 y9 y11 1
      ) else (
        g_newellaw06_OrderBehind.k16 n a3 y5 y7 y9 y11 0
      )
    )
  )
theorem g_newellaw06_OrderBehind.ok (n : Nat) (a0 : Int) (a1 : Int) (a2 : Int) (a3 : Str) (r : Bool) (h : g_newellaw06_OrderBehind n a0 a1 a2 a3 = some r) : Impl Tryd.prog 6 [.one (dint a0), .one (dint a1), .one (dint a2), .one (dstr a3)] [.one (dbool r)] := by
  refine impl_wp tabOk Tryd.func6 rfl rfl (by kernel_rfl) ?_
  unfold g_newellaw06_OrderBehind at h
  refine WP_seq ?_
  refine vcc_sound _ _ _ tabOk (by exact rfl) ?_
  repeat (first | refine Ob.mk (by first | rfl | omega | assumption | exact ⟨rfl, rfl, (List.length_map _).symm⟩ | exact ⟨rfl, rfl, by rw [List.length_map]; omega⟩) ?_ | refine Br.t ?_ | refine Br.f ?_)
  refine WP_seq ?_
  refine WP_seq ?_
  refine vcc_sound _ _ _ tabOk (by exact rfl) ?_
  repeat (first | refine Ob.mk (by first | rfl | omega | assumption | exact ⟨rfl, rfl, (List.length_map _).symm⟩ | exact ⟨rfl, rfl, by rw [List.length_map]; omega⟩) ?_ | refine Br.t ?_ | refine Br.f ?_)
  refine vcc_sound _ _ _ tabOk (by exact rfl) ?_
  repeat (first | refine Ob.mk (by first | rfl | omega | assumption | exact ⟨rfl, rfl, (List.length_map _).symm⟩ | exact ⟨rfl, rfl, by rw [List.length_map]; omega⟩) ?_ | refine Br.t ?_ | refine Br.f ?_)
  refine Br.mk (fun b3 => ?_) (fun b3 => ?_)
  · replace h := bif_t b3 h
    refine WP_seq ?_
    refine vcc_sound _ _ _ tabOk (by exact rfl) ?_
    obtain ⟨y4, hy4, h⟩ := bind_some h
    repeat (first | refine Ob.mk (by first | rfl | omega | assumption | exact ⟨rfl, rfl, (List.length_map _).symm⟩ | exact ⟨rfl, rfl, by rw [List.length_map]; omega⟩) ?_ | refine Br.t ?_ | refine Br.f ?_)
    refine CallD.mk _ _ (g_newellaw06_awake.ok n y4 hy4) (by exact trivial) ?_
    repeat (first | refine Ob.mk (by first | rfl | omega | assumption | exact ⟨rfl, rfl, (List.length_map _).symm⟩ | exact ⟨rfl, rfl, by rw [List.length_map]; omega⟩) ?_ | refine Br.t ?_ | refine Br.f ?_)
    refine WP_ret ?_
    obtain rfl := Option.some.inj h
    repeat (first | refine Ob.mk (by first | rfl | omega | assumption | exact ⟨rfl, rfl, (List.length_map _).symm⟩ | exact ⟨rfl, rfl, by rw [List.length_map]; omega⟩) ?_ | refine Br.t ?_ | refine Br.f ?_)
    exact ⟨DLe.refl _, trivial⟩
  · replace h := bif_f b3 h
    refine WP_skip ?_
    refine WP_seq ?_
    refine vcc_sound _ _ _ tabOk (by exact rfl) ?_
    repeat (first | refine Ob.mk (by first | rfl | omega | assumption | exact ⟨rfl, rfl, (List.length_map _).symm⟩ | exact ⟨rfl, rfl, by rw [List.length_map]; omega⟩) ?_ | refine Br.t ?_ | refine Br.f ?_)
    refine WP_seq ?_
    refine vcc_sound _ _ _ tabOk (by exact rfl) ?_
    obtain ⟨y5, hy5, h⟩ := bind_some h
    repeat (first | refine Ob.mk (by first | rfl | omega | assumption | exact ⟨rfl, rfl, (List.length_map _).symm⟩ | exact ⟨rfl, rfl, by rw [List.length_map]; omega⟩) ?_ | refine Br.t ?_ | refine Br.f ?_)
    refine CallD.mk _ _ (g_newellaw06_OrderBehind_1.ok n a0 y5 hy5) (by exact ⟨DLe.refl _, trivial⟩) ?_
    obtain ⟨c6, h⟩ := chk_some h
    obtain ⟨y7, hy7, h⟩ := bind_some h
    repeat (first | refine Ob.mk (by first | rfl | omega | assumption | exact ⟨rfl, rfl, (List.length_map _).symm⟩ | exact ⟨rfl, rfl, by rw [List.length_map]; omega⟩) ?_ | refine Br.t ?_ | refine Br.f ?_)
    refine CallD.mk _ _ (g_newellaw06_OrderBehind_1.ok n a1 y7 hy7) (by exact ⟨DLe.refl _, trivial⟩) ?_
    obtain ⟨c8, h⟩ := chk_some h
    obtain ⟨y9, hy9, h⟩ := bind_some h
    repeat (first | refine Ob.mk (by first | rfl | omega | assumption | exact ⟨rfl, rfl, (List.length_map _).symm⟩ | exact ⟨rfl, rfl, by rw [List.length_map]; omega⟩) ?_ | refine Br.t ?_ | refine Br.f ?_)
    refine CallD.mk _ _ (g_newellaw06_OrderBehind_1.ok n a0 y9 hy9) (by exact ⟨DLe.refl _, trivial⟩) ?_
    obtain ⟨c10, h⟩ := chk_some h
    obtain ⟨y11, hy11, h⟩ := bind_some h
    repeat (first | refine Ob.mk (by first | rfl | omega | assumption | exact ⟨rfl, rfl, (List.length_map _).symm⟩ | exact ⟨rfl, rfl, by rw [List.length_map]; omega⟩) ?_ | refine Br.t ?_ | refine Br.f ?_)
    refine CallD.mk _ _ (g_newellaw06_OrderBehind_1.ok n a2 y11 hy11) (by exact ⟨DLe.refl _, trivial⟩) ?_
    obtain ⟨c12, h⟩ := chk_some h
    repeat (first | refine Ob.mk (by first | rfl | omega | assumption | exact ⟨rfl, rfl, (List.length_map _).symm⟩ | exact ⟨rfl, rfl, by rw [List.length_map]; omega⟩) ?_ | refine Br.t ?_ | refine Br.f ?_)
    refine WP_seq ?_
    refine vcc_sound _ _ _ tabOk (by exact rfl) ?_
    repeat (first | refine Ob.mk (by first | rfl | omega | assumption | exact ⟨rfl, rfl, (List.length_map _).symm⟩ | exact ⟨rfl, rfl, by rw [List.length_map]; omega⟩) ?_ | refine Br.t ?_ | refine Br.f ?_)
    refine WP_seq_cut (α := {p : Int // g_newellaw06_OrderBehind.k16 n a3 y5 y7 y9 y11 p = some r}) (fun p => ofL [(3, .str a3), (10, .str ((y5 ++ (⟨#[46]⟩ : Str)) ++ y7)), (11, .str ((y9 ++ (⟨#[46]⟩ : Str)) ++ y11)), (12, .int p.1)]) (fun p => []) ?_ ?_
    rotate_left
    · rintro ⟨x15, h⟩
      replace h : g_newellaw06_OrderBehind.k16 n a3 y5 y7 y9 y11 x15 = some r := h
      unfold g_newellaw06_OrderBehind.k16 at h
      try dsimp only
      refine WP_seq ?_
      refine vcc_sound _ _ _ tabOk (by exact rfl) ?_
      obtain ⟨y17, hy17, h⟩ := bind_some h
      repeat (first | refine Ob.mk (by first | rfl | omega | assumption | exact ⟨rfl, rfl, (List.length_map _).symm⟩ | exact ⟨rfl, rfl, by rw [List.length_map]; omega⟩) ?_ | refine Br.t ?_ | refine Br.f ?_)
      refine CallD.mk _ _ (g_newellaw06_awake.ok n y17 hy17) (by exact trivial) ?_
      repeat (first | refine Ob.mk (by first | rfl | omega | assumption | exact ⟨rfl, rfl, (List.length_map _).symm⟩ | exact ⟨rfl, rfl, by rw [List.length_map]; omega⟩) ?_ | refine Br.t ?_ | refine Br.f ?_)
      refine Br.mk (fun b18 => ?_) (fun b18 => ?_)
      · replace h := bif_t b18 h
        obtain ⟨y19, hy19, h⟩ := bind_some h
        repeat (first | refine Ob.mk (by first | rfl | omega | assumption | exact ⟨rfl, rfl, (List.length_map _).symm⟩ | exact ⟨rfl, rfl, by rw [List.length_map]; omega⟩) ?_ | refine Br.t ?_ | refine Br.f ?_)
        refine CallD.mk _ _ (g_order_Compare.ok n ((y5 ++ (⟨#[46]⟩ : Str)) ++ y7) ((y9 ++ (⟨#[46]⟩ : Str)) ++ y11) y19 hy19) (by exact ⟨DLe.refl _, DLe.refl _, trivial⟩) ?_
        repeat (first | refine Ob.mk (by first | rfl | omega | assumption | exact ⟨rfl, rfl, (List.length_map _).symm⟩ | exact ⟨rfl, rfl, by rw [List.length_map]; omega⟩) ?_ | refine Br.t ?_ | refine Br.f ?_)
        refine Br.mk (fun b20 => ?_) (fun b20 => ?_)
        · replace h := bif_t b20 h
          obtain ⟨c21, h⟩ := chk_some h
          obtain ⟨c22, h⟩ := chk_some h
          obtain ⟨y23, hy23, h⟩ := bind_some h
          repeat (first | refine Ob.mk (by first | rfl | omega | assumption | exact ⟨rfl, rfl, (List.length_map _).symm⟩ | exact ⟨rfl, rfl, by rw [List.length_map]; omega⟩) ?_ | refine Br.t ?_ | refine Br.f ?_)
          refine CallD.mk _ _ (g_order_Compare.ok n ((⟨#[55, 46]⟩ : Str) ++ ((y5 ++ (⟨#[46]⟩ : Str)) ++ y7)) ((⟨#[55, 46]⟩ : Str) ++ ((y9 ++ (⟨#[46]⟩ : Str)) ++ y11)) y23 hy23) (by exact ⟨DLe.refl _, DLe.refl _, trivial⟩) ?_
          repeat (first | refine Ob.mk (by first | rfl | omega | assumption | exact ⟨rfl, rfl, (List.length_map _).symm⟩ | exact ⟨rfl, rfl, by rw [List.length_map]; omega⟩) ?_ | refine Br.t ?_ | refine Br.f ?_)
          refine Br.mk (fun b24 => ?_) (fun b24 => ?_)
          · replace h := bif_t b24 h
            obtain ⟨c25, h⟩ := chk_some h
            obtain ⟨y26, hy26, h⟩ := bind_some h
            repeat (first | refine Ob.mk (by first | rfl | omega | assumption | exact ⟨rfl, rfl, (List.length_map _).symm⟩ | exact ⟨rfl, rfl, by rw [List.length_map]; omega⟩) ?_ | refine Br.t ?_ | refine Br.f ?_)
            refine CallD.mk _ _ (g_order_Compare.ok n a3 (a3 ++ (⟨#[46, 48]⟩ : Str)) y26 hy26) (by exact ⟨DLe.refl _, DLe.refl _, trivial⟩) ?_
            repeat (first | refine Ob.mk (by first | rfl | omega | assumption | exact ⟨rfl, rfl, (List.length_map _).symm⟩ | exact ⟨rfl, rfl, by rw [List.length_map]; omega⟩) ?_ | refine Br.t ?_ | refine Br.f ?_)
            refine Br.mk (fun b27 => ?_) (fun b27 => ?_)
            · replace h := bif_t b27 h
              obtain ⟨c28, h⟩ := chk_some h
              obtain ⟨y29, hy29, h⟩ := bind_some h
              repeat (first | refine Ob.mk (by first | rfl | omega | assumption | exact ⟨rfl, rfl, (List.length_map _).symm⟩ | exact ⟨rfl, rfl, by rw [List.length_map]; omega⟩) ?_ | refine Br.t ?_ | refine Br.f ?_)
              refine CallD.mk _ _ (g_order_Compare.ok n (a3 ++ (⟨#[46, 49]⟩ : Str)) a3 y29 hy29) (by exact ⟨DLe.refl _, DLe.refl _, trivial⟩) ?_
              repeat (first | refine Ob.mk (by first | rfl | omega | assumption | exact ⟨rfl, rfl, (List.length_map _).symm⟩ | exact ⟨rfl, rfl, by rw [List.length_map]; omega⟩) ?_ | refine Br.t ?_ | refine Br.f ?_)
              refine WP_ret ?_
              obtain rfl := Option.some.inj h
              repeat (first | refine Ob.mk (by first | rfl | omega | assumption | exact ⟨rfl, rfl, (List.length_map _).symm⟩ | exact ⟨rfl, rfl, by rw [List.length_map]; omega⟩) ?_ | refine Br.t ?_ | refine Br.f ?_)
              exact ⟨DLe.refl _, trivial⟩
            · replace h := bif_f b27 h
              repeat (first | refine Ob.mk (by first | rfl | omega | assumption | exact ⟨rfl, rfl, (List.length_map _).symm⟩ | exact ⟨rfl, rfl, by rw [List.length_map]; omega⟩) ?_ | refine Br.t ?_ | refine Br.f ?_)
              refine WP_ret ?_
              obtain rfl := Option.some.inj h
              repeat (first | refine Ob.mk (by first | rfl | omega | assumption | exact ⟨rfl, rfl, (List.length_map _).symm⟩ | exact ⟨rfl, rfl, by rw [List.length_map]; omega⟩) ?_ | refine Br.t ?_ | refine Br.f ?_)
              exact ⟨DLe.refl _, trivial⟩
          · replace h := bif_f b24 h
            repeat (first | refine Ob.mk (by first | rfl | omega | assumption | exact ⟨rfl, rfl, (List.length_map _).symm⟩ | exact ⟨rfl, rfl, by rw [List.length_map]; omega⟩) ?_ | refine Br.t ?_ | refine Br.f ?_)
            refine WP_ret ?_
            obtain rfl := Option.some.inj h
            repeat (first | refine Ob.mk (by first | rfl | omega | assumption | exact ⟨rfl, rfl, (List.length_map _).symm⟩ | exact ⟨rfl, rfl, by rw [List.length_map]; omega⟩) ?_ | refine Br.t ?_ | refine Br.f ?_)
            exact ⟨DLe.refl _, trivial⟩
        · replace h := bif_f b20 h
          repeat (first | refine Ob.mk (by first | rfl | omega | assumption | exact ⟨rfl, rfl, (List.length_map _).symm⟩ | exact ⟨rfl, rfl, by rw [List.length_map]; omega⟩) ?_ | refine Br.t ?_ | refine Br.f ?_)
          refine WP_ret ?_
          obtain rfl := Option.some.inj h
          repeat (first | refine Ob.mk (by first | rfl | omega | assumption | exact ⟨rfl, rfl, (List.length_map _).symm⟩ | exact ⟨rfl, rfl, by rw [List.length_map]; omega⟩) ?_ | refine Br.t ?_ | refine Br.f ?_)
          exact ⟨DLe.refl _, trivial⟩
      · replace h := bif_f b18 h
        repeat (first | refine Ob.mk (by first | rfl | omega | assumption | exact ⟨rfl, rfl, (List.length_map _).symm⟩ | exact ⟨rfl, rfl, by rw [List.length_map]; omega⟩) ?_ | refine Br.t ?_ | refine Br.f ?_)
        refine WP_ret ?_
        obtain rfl := Option.some.inj h
        repeat (first | refine Ob.mk (by first | rfl | omega | assumption | exact ⟨rfl, rfl, (List.length_map _).symm⟩ | exact ⟨rfl, rfl, by rw [List.length_map]; omega⟩) ?_ | refine Br.t ?_ | refine Br.f ?_)
        exact ⟨DLe.refl _, trivial⟩
    refine WP_seq ?_
    refine vcc_sound _ _ _ tabOk (by exact rfl) ?_
    repeat (first | refine Ob.mk (by first | rfl | omega | assumption | exact ⟨rfl, rfl, (List.length_map _).symm⟩ | exact ⟨rfl, rfl, by rw [List.length_map]; omega⟩) ?_ | refine Br.t ?_ | refine Br.f ?_)
    refine vcc_sound _ _ _ tabOk (by exact rfl) ?_
    repeat (first | refine Ob.mk (by first | rfl | omega | assumption | exact ⟨rfl, rfl, (List.length_map _).symm⟩ | exact ⟨rfl, rfl, by rw [List.length_map]; omega⟩) ?_ | refine Br.t ?_ | refine Br.f ?_)
    refine Br.mk (fun b30 => ?_) (fun b30 => ?_)
    · replace h := bif_t b30 h
      refine vcc_sound _ _ _ tabOk (by exact rfl) ?_
      repeat (first | refine Ob.mk (by first | rfl | omega | assumption | exact ⟨rfl, rfl, (List.length_map _).symm⟩ | exact ⟨rfl, rfl, by rw [List.length_map]; omega⟩) ?_ | refine Br.t ?_ | refine Br.f ?_)
      repeat (first | refine Ob.mk (by first | rfl | omega | assumption | exact ⟨rfl, rfl, (List.length_map _).symm⟩ | exact ⟨rfl, rfl, by rw [List.length_map]; omega⟩) ?_ | refine Br.t ?_ | refine Br.f ?_)
      exact ⟨⟨(-1), h⟩, Sub.ofL _ _ (Nat.zero_le _) ⟨rfl, rfl, rfl, rfl, rfl, rfl, rfl, rfl, trivial⟩ rfl rfl⟩
    · replace h := bif_f b30 h
      refine WP_seq ?_
      refine vcc_sound _ _ _ tabOk (by exact rfl) ?_
      repeat (first | refine Ob.mk (by first | rfl | omega | assumption | exact ⟨rfl, rfl, (List.length_map _).symm⟩ | exact ⟨rfl, rfl, by rw [List.length_map]; omega⟩) ?_ | refine Br.t ?_ | refine Br.f ?_)
      refine vcc_sound _ _ _ tabOk (by exact rfl) ?_
      repeat (first | refine Ob.mk (by first | rfl | omega | assumption | exact ⟨rfl, rfl, (List.length_map _).symm⟩ | exact ⟨rfl, rfl, by rw [List.length_map]; omega⟩) ?_ | refine Br.t ?_ | refine Br.f ?_)
      refine Br.mk (fun b31 => ?_) (fun b31 => ?_)
      · replace h := bif_t b31 h
        refine vcc_sound _ _ _ tabOk (by exact rfl) ?_
        repeat (first | refine Ob.mk (by first | rfl | omega | assumption | exact ⟨rfl, rfl, (List.length_map _).symm⟩ | exact ⟨rfl, rfl, by rw [List.length_map]; omega⟩) ?_ | refine Br.t ?_ | refine Br.f ?_)
        repeat (first | refine Ob.mk (by first | rfl | omega | assumption | exact ⟨rfl, rfl, (List.length_map _).symm⟩ | exact ⟨rfl, rfl, by rw [List.length_map]; omega⟩) ?_ | refine Br.t ?_ | refine Br.f ?_)
        exact ⟨⟨1, h⟩, Sub.ofL _ _ (Nat.zero_le _) ⟨rfl, rfl, rfl, rfl, rfl, rfl, rfl, rfl, trivial⟩ rfl rfl⟩
      · replace h := bif_f b31 h
        refine WP_skip ?_
        repeat (first | refine Ob.mk (by first | rfl | omega | assumption | exact ⟨rfl, rfl, (List.length_map _).symm⟩ | exact ⟨rfl, rfl, by rw [List.length_map]; omega⟩) ?_ | refine Br.t ?_ | refine Br.f ?_)
        exact ⟨⟨0, h⟩, Sub.ofL _ _ (Nat.zero_le _) ⟨rfl, rfl, rfl, rfl, rfl, rfl, rfl, rfl, trivial⟩ rfl rfl⟩

/-! ### newel/newellaw06.OrderMiddle -/
def g_newellaw06_OrderMiddle.k19 (n : Nat) (y2 : Str) (y4 : Str) (x20 : Str) : Option (Bool) :=
  chk (textOk (y2.size + x20.size)) <|
  chk (textOk ((y2 ++ x20).size + (⟨#[46]⟩ : Str).size)) <|
  chk (textOk (((y2 ++ x20) ++ (⟨#[46]⟩ : Str)).size + y4.size)) <|
  (g_newellaw06_awake n).bind fun y24 =>
  bif y24 then (
    (g_order_Compare n (((y2 ++ x20) ++ (⟨#[46]⟩ : Str)) ++ y4) y2).bind fun y26 =>
    bif (y26 == 1) then (
      chk (textOk ((((y2 ++ x20) ++ (⟨#[46]⟩ : Str)) ++ y4).size + x20.size)) <|
      (g_order_Compare n (((y2 ++ x20) ++ (⟨#[46]⟩ : Str)) ++ y4) ((((y2 ++ x20) ++ (⟨#[46]⟩ : Str)) ++ y4) ++ x20)).bind fun y29 =>
      bif (y29 == 0) then (
        chk (textOk ((((y2 ++ x20) ++ (⟨#[46]⟩ : Str)) ++ y4).size + (⟨#[45, 83, 78, 65, 80, 83, 72, 79, 84]⟩ : Str).size)) <|
        (g_order_Compare n ((((y2 ++ x20) ++ (⟨#[46]⟩ : Str)) ++ y4) ++ (⟨#[45, 83, 78, 65, 80, 83, 72, 79, 84]⟩ : Str)) (((y2 ++ x20) ++ (⟨#[46]⟩ : Str)) ++ y4)).bind fun y32 =>
        bif (y32 == (-1)) then (
          chk (textOk ((((y2 ++ x20) ++ (⟨#[46]⟩ : Str)) ++ y4).size + (⟨#[45, 115, 112]⟩ : Str).size)) <|
          (g_order_Compare n ((((y2 ++ x20) ++ (⟨#[46]⟩ : Str)) ++ y4) ++ (⟨#[45, 115, 112]⟩ : Str)) (((y2 ++ x20) ++ (⟨#[46]⟩ : Str)) ++ y4)).bind fun y35 =>
          bif (y35 == 1) then (
            chk (textOk ((((y2 ++ x20) ++ (⟨#[46]⟩ : Str)) ++ y4).size + (⟨#[45, 114, 99]⟩ : Str).size)) <|
            chk (textOk ((((y2 ++ x20) ++ (⟨#[46]⟩ : Str)) ++ y4).size + (⟨#[45, 99, 114]⟩ : Str).size)) <|
            (g_order_Compare n ((((y2 ++ x20) ++ (⟨#[46]⟩ : Str)) ++ y4) ++ (⟨#[45, 114, 99]⟩ : Str)) ((((y2 ++ x20) ++ (⟨#[46]⟩ : Str)) ++ y4) ++ (⟨#[45, 99, 114]⟩ : Str))).bind fun y39 =>
            bif (y39 == 0) then (
              chk (textOk ((((y2 ++ x20) ++ (⟨#[46]⟩ : Str)) ++ y4).size + (⟨#[45, 114, 99, 49]⟩ : Str).size)) <|
              chk (textOk ((((y2 ++ x20) ++ (⟨#[46]⟩ : Str)) ++ y4).size + (⟨#[45, 114, 99, 50]⟩ : Str).size)) <|
              (g_order_Compare n ((((y2 ++ x20) ++ (⟨#[46]⟩ : Str)) ++ y4) ++ (⟨#[45, 114, 99, 49]⟩ : Str)) ((((y2 ++ x20) ++ (⟨#[46]⟩ : Str)) ++ y4) ++ (⟨#[45, 114, 99, 50]⟩ : Str))).bind fun y43 =>
              bif (y43 == (-1)) then (
                chk (textOk ((((y2 ++ x20) ++ (⟨#[46]⟩ : Str)) ++ y4).size + (⟨#[45, 114, 99]⟩ : Str).size)) <|
                chk (textOk ((((y2 ++ x20) ++ (⟨#[46]⟩ : Str)) ++ y4).size + (⟨#[45, 114, 99, 49]⟩ : Str).size)) <|
                (g_order_Compare n ((((y2 ++ x20) ++ (⟨#[46]⟩ : Str)) ++ y4) ++ (⟨#[45, 114, 99]⟩ : Str)) ((((y2 ++ x20) ++ (⟨#[46]⟩ : Str)) ++ y4) ++ (⟨#[45, 114, 99, 49]⟩ : Str))).bind fun y47 =>
                bif (y47 == (-1)) then (
                  chk (textOk ((((y2 ++ x20) ++ (⟨#[46]⟩ : Str)) ++ y4).size + (⟨#[45, 97, 108, 112, 104, 97, 45, 49]⟩ : Str).size)) <|
                  chk (textOk ((((y2 ++ x20) ++ (⟨#[46]⟩ : Str)) ++ y4).size + (⟨#[45, 98, 101, 116, 97]⟩ : Str).size)) <|
                  (g_order_Compare n ((((y2 ++ x20) ++ (⟨#[46]⟩ : Str)) ++ y4) ++ (⟨#[45, 97, 108, 112, 104, 97, 45, 49]⟩ : Str)) ((((y2 ++ x20) ++ (⟨#[46]⟩ : Str)) ++ y4) ++ (⟨#[45, 98, 101, 116, 97]⟩ : Str))).bind fun y51 =>
                  some (y51 == (-1))
                ) else (
                  some false
                )
              ) else (
                some false
              )
            ) else (
              some false
            )
          ) else (
            some false
          )
        ) else (
          some false
        )
      ) else (
        some false
      )
    ) else (
      some false
    )
  ) else (
    some false
  )
def g_newellaw06_OrderMiddle.l19b (n : Nat) (y2 : Str) (y4 : Str) (rec19 : Str → Int → Option (Bool)) (x52 : Str) (x53 : Int) : Option (Bool) :=
  bif (decide (x53 > 0)) then (
    chk (textOk (x52.size + (⟨#[46, 48]⟩ : Str).size)) <|
    chk (in64 (x53 - 1)) <|
    rec19 (x52 ++ (⟨#[46, 48]⟩ : Str)) (x53 - 1)
  ) else (
    g_newellaw06_OrderMiddle.k19 n y2 y4 x52
  )
def g_newellaw06_OrderMiddle.l19 (n : Nat) (y2 : Str) (y4 : Str) : Nat → Str → Int → Option (Bool)
  | 0, _, _ => none
  | m + 1, x52, x53 => g_newellaw06_OrderMiddle.l19b n y2 y4 (g_newellaw06_OrderMiddle.l19 n y2 y4 m) x52 x53
def g_newellaw06_OrderMiddle (n : Nat) (a0 : Int) (a1 : Int) (a2 : Int) : Option (Bool) :=
  chk (in64 ((1 : Int) + (IntKind.wrap .i64 ((IntKind.wrap .u64 a0).tmod 200)))) <|
  (g_newelhelp_Digits n ((1 : Int) + (IntKind.wrap .i64 ((IntKind.wrap .u64 a0).tmod 200)))).bind fun y2 =>
  chk (in64 ((1 : Int) + (IntKind.wrap .i64 ((IntKind.wrap .u64 a1).tmod 200)))) <|
  (g_newelhelp_Digits n ((1 : Int) + (IntKind.wrap .i64 ((IntKind.wrap .u64 a1).tmod 200)))).bind fun y4 =>
  g_newellaw06_OrderMiddle.l19 n y2 y4 n emp (IntKind.wrap .i64 ((IntKind.wrap .u64 a2).tmod 4))
theorem g_newellaw06_OrderMiddle.ok (n : Nat) (a0 : Int) (a1 : Int) (a2 : Int) (r : Bool) (h : g_newellaw06_OrderMiddle n a0 a1 a2 = some r) : Impl Tryd.prog 7 [.one (dint a0), .one (dint a1), .one (dint a2)] [.one (dbool r)] := by
  refine impl_wp tabOk Tryd.func7 rfl rfl (by kernel_rfl) ?_
  unfold g_newellaw06_OrderMiddle at h
  refine WP_seq ?_
  refine vcc_sound _ _ _ tabOk (by exact rfl) ?_
  repeat (first | refine Ob.mk (by first | rfl | omega | assumption | exact ⟨rfl, rfl, (List.length_map _).symm⟩ | exact ⟨rfl, rfl, by rw [List.length_map]; omega⟩) ?_ | refine Br.t ?_ | refine Br.f ?_)
  refine WP_seq ?_
  refine vcc_sound _ _ _ tabOk (by exact rfl) ?_
  obtain ⟨c1, h⟩ := chk_some h
  obtain ⟨y2, hy2, h⟩ := bind_some h
  repeat (first | refine Ob.mk (by first | rfl | omega | assumption | exact ⟨rfl, rfl, (List.length_map _).symm⟩ | exact ⟨rfl, rfl, by rw [List.length_map]; omega⟩) ?_ | refine Br.t ?_ | refine Br.f ?_)
  refine CallD.mk _ _ (g_newelhelp_Digits.ok n ((1 : Int) + (IntKind.wrap .i64 ((IntKind.wrap .u64 a0).tmod 200))) y2 hy2) (by exact ⟨DLe.refl _, trivial⟩) ?_
  obtain ⟨c3, h⟩ := chk_some h
  obtain ⟨y4, hy4, h⟩ := bind_some h
  repeat (first | refine Ob.mk (by first | rfl | omega | assumption | exact ⟨rfl, rfl, (List.length_map _).symm⟩ | exact ⟨rfl, rfl, by rw [List.length_map]; omega⟩) ?_ | refine Br.t ?_ | refine Br.f ?_)
  refine CallD.mk _ _ (g_newelhelp_Digits.ok n ((1 : Int) + (IntKind.wrap .i64 ((IntKind.wrap .u64 a1).tmod 200))) y4 hy4) (by exact ⟨DLe.refl _, trivial⟩) ?_
  repeat (first | refine Ob.mk (by first | rfl | omega | assumption | exact ⟨rfl, rfl, (List.length_map _).symm⟩ | exact ⟨rfl, rfl, by rw [List.length_map]; omega⟩) ?_ | refine Br.t ?_ | refine Br.f ?_)
  refine WP_seq ?_
  refine vcc_sound _ _ _ tabOk (by exact rfl) ?_
  repeat (first | refine Ob.mk (by first | rfl | omega | assumption | exact ⟨rfl, rfl, (List.length_map _).symm⟩ | exact ⟨rfl, rfl, by rw [List.length_map]; omega⟩) ?_ | refine Br.t ?_ | refine Br.f ?_)
  refine WP_seq ?_
  refine WP_seq ?_
  refine vcc_sound _ _ _ tabOk (by exact rfl) ?_
  repeat (first | refine Ob.mk (by first | rfl | omega | assumption | exact ⟨rfl, rfl, (List.length_map _).symm⟩ | exact ⟨rfl, rfl, by rw [List.length_map]; omega⟩) ?_ | refine Br.t ?_ | refine Br.f ?_)
  refine WP_cutQ (α := {p : Str // g_newellaw06_OrderMiddle.k19 n y2 y4 p = some r}) (fun p => ofL [(7, .str y2), (8, .str y4), (9, .str p.1)]) (fun p => []) (WP_block (WP_loop (α := {x : Nat × Str × Int // g_newellaw06_OrderMiddle.l19 n y2 y4 x.1 x.2.1 x.2.2 = some r}) (fun x => ofL [(7, .str y2), (8, .str y4), (9, .str x.1.2.1), (10, .int x.1.2.2)]) (fun x => []) (fun x => x.1.1) ⟨(n, emp, (IntKind.wrap .i64 ((IntKind.wrap .u64 a2).tmod 4))), h⟩ (Sub.ofL _ _ (Nat.zero_le _) ⟨rfl, rfl, rfl, rfl, rfl, rfl, rfl, rfl, trivial⟩ rfl rfl) ?_)) ?_
  rotate_left
  · rintro ⟨x20, h⟩ env st hs
    replace h : g_newellaw06_OrderMiddle.k19 n y2 y4 x20 = some r := h
    unfold g_newellaw06_OrderMiddle.k19 at h
    refine WP_sub hs ?_
    try dsimp only
    refine WP_seq ?_
    refine vcc_sound _ _ _ tabOk (by exact rfl) ?_
    obtain ⟨c21, h⟩ := chk_some h
    obtain ⟨c22, h⟩ := chk_some h
    obtain ⟨c23, h⟩ := chk_some h
    repeat (first | refine Ob.mk (by first | rfl | omega | assumption | exact ⟨rfl, rfl, (List.length_map _).symm⟩ | exact ⟨rfl, rfl, by rw [List.length_map]; omega⟩) ?_ | refine Br.t ?_ | refine Br.f ?_)
    refine WP_seq ?_
    refine vcc_sound _ _ _ tabOk (by exact rfl) ?_
    obtain ⟨y24, hy24, h⟩ := bind_some h
    repeat (first | refine Ob.mk (by first | rfl | omega | assumption | exact ⟨rfl, rfl, (List.length_map _).symm⟩ | exact ⟨rfl, rfl, by rw [List.length_map]; omega⟩) ?_ | refine Br.t ?_ | refine Br.f ?_)
    refine CallD.mk _ _ (g_newellaw06_awake.ok n y24 hy24) (by exact trivial) ?_
    repeat (first | refine Ob.mk (by first | rfl | omega | assumption | exact ⟨rfl, rfl, (List.length_map _).symm⟩ | exact ⟨rfl, rfl, by rw [List.length_map]; omega⟩) ?_ | refine Br.t ?_ | refine Br.f ?_)
    refine Br.mk (fun b25 => ?_) (fun b25 => ?_)
    · replace h := bif_t b25 h
      obtain ⟨y26, hy26, h⟩ := bind_some h
      repeat (first | refine Ob.mk (by first | rfl | omega | assumption | exact ⟨rfl, rfl, (List.length_map _).symm⟩ | exact ⟨rfl, rfl, by rw [List.length_map]; omega⟩) ?_ | refine Br.t ?_ | refine Br.f ?_)
      refine CallD.mk _ _ (g_order_Compare.ok n (((y2 ++ x20) ++ (⟨#[46]⟩ : Str)) ++ y4) y2 y26 hy26) (by exact ⟨DLe.refl _, DLe.refl _, trivial⟩) ?_
      repeat (first | refine Ob.mk (by first | rfl | omega | assumption | exact ⟨rfl, rfl, (List.length_map _).symm⟩ | exact ⟨rfl, rfl, by rw [List.length_map]; omega⟩) ?_ | refine Br.t ?_ | refine Br.f ?_)
      refine Br.mk (fun b27 => ?_) (fun b27 => ?_)
      · replace h := bif_t b27 h
        obtain ⟨c28, h⟩ := chk_some h
        obtain ⟨y29, hy29, h⟩ := bind_some h
        repeat (first | refine Ob.mk (by first | rfl | omega | assumption | exact ⟨rfl, rfl, (List.length_map _).symm⟩ | exact ⟨rfl, rfl, by rw [List.length_map]; omega⟩) ?_ | refine Br.t ?_ | refine Br.f ?_)
        refine CallD.mk _ _ (g_order_Compare.ok n (((y2 ++ x20) ++ (⟨#[46]⟩ : Str)) ++ y4) ((((y2 ++ x20) ++ (⟨#[46]⟩ : Str)) ++ y4) ++ x20) y29 hy29) (by exact ⟨DLe.refl _, DLe.refl _, trivial⟩) ?_
        repeat (first | refine Ob.mk (by first | rfl | omega | assumption | exact ⟨rfl, rfl, (List.length_map _).symm⟩ | exact ⟨rfl, rfl, by rw [List.length_map]; omega⟩) ?_ | refine Br.t ?_ | refine Br.f ?_)
        refine Br.mk (fun b30 => ?_) (fun b30 => ?_)
        · replace h := bif_t b30 h
          obtain ⟨c31, h⟩ := chk_some h
          obtain ⟨y32, hy32, h⟩ := bind_some h
          repeat (first | refine Ob.mk (by first | rfl | omega | assumption | exact ⟨rfl, rfl, (List.length_map _).symm⟩ | exact ⟨rfl, rfl, by rw [List.length_map]; omega⟩) ?_ | refine Br.t ?_ | refine Br.f ?_)
          refine CallD.mk _ _ (g_order_Compare.ok n ((((y2 ++ x20) ++ (⟨#[46]⟩ : Str)) ++ y4) ++ (⟨#[45, 83, 78, 65, 80, 83, 72, 79, 84]⟩ : Str)) (((y2 ++ x20) ++ (⟨#[46]⟩ : Str)) ++ y4) y32 hy32) (by exact ⟨DLe.refl _, DLe.refl _, trivial⟩) ?_
          repeat (first | refine Ob.mk (by first | rfl | omega | assumption | exact ⟨rfl, rfl, (List.length_map _).symm⟩ | exact ⟨rfl, rfl, by rw [List.length_map]; omega⟩) ?_ | refine Br.t ?_ | refine Br.f ?_)
          refine Br.mk (fun b33 => ?_) (fun b33 => ?_)
          · replace h := bif_t b33 h
            obtain ⟨c34, h⟩ := chk_some h
            obtain ⟨y35, hy35, h⟩ := bind_some h
            repeat (first | refine Ob.mk (by first | rfl | omega | assumption | exact ⟨rfl, rfl, (List.length_map _).symm⟩ | exact ⟨rfl, rfl, by rw [List.length_map]; omega⟩) ?_ | refine Br.t ?_ | refine Br.f ?_)
            refine CallD.mk _ _ (g_order_Compare.ok n ((((y2 ++ x20) ++ (⟨#[46]⟩ : Str)) ++ y4) ++ (⟨#[45, 115, 112]⟩ : Str)) (((y2 ++ x20) ++ (⟨#[46]⟩ : Str)) ++ y4) y35 hy35) (by exact ⟨DLe.refl _, DLe.refl _, trivial⟩) ?_
            repeat (first | refine Ob.mk (by first | rfl | omega | assumption | exact ⟨rfl, rfl, (List.length_map _).symm⟩ | exact ⟨rfl, rfl, by rw [List.length_map]; omega⟩) ?_ | refine Br.t ?_ | refine Br.f ?_)
            refine Br.mk (fun b36 => ?_) (fun b36 => ?_)
            · replace h := bif_t b36 h
              obtain ⟨c37, h⟩ := chk_some h
              obtain ⟨c38, h⟩ := chk_some h
              obtain ⟨y39, hy39, h⟩ := bind_some h
              repeat (first | refine Ob.mk (by first | rfl | omega | assumption | exact ⟨rfl, rfl, (List.length_map _).symm⟩ | exact ⟨rfl, rfl, by rw [List.length_map]; omega⟩) ?_ | refine Br.t ?_ | refine Br.f ?_)
              refine CallD.mk _ _ (g_order_Compare.ok n ((((y2 ++ x20) ++ (⟨#[46]⟩ : Str)) ++ y4) ++ (⟨#[45, 114, 99]⟩ : Str)) ((((y2 ++ x20) ++ (⟨#[46]⟩ : Str)) ++ y4) ++ (⟨#[45, 99, 114]⟩ : Str)) y39 hy39) (by exact ⟨DLe.refl _, DLe.refl _, trivial⟩) ?_
              repeat (first | refine Ob.mk (by first | rfl | omega | assumption | exact ⟨rfl, rfl, (List.length_map _).symm⟩ | exact ⟨rfl, rfl, by rw [List.length_map]; omega⟩) ?_ | refine Br.t ?_ | refine Br.f ?_)
              refine Br.mk (fun b40 => ?_) (fun b40 => ?_)
              · replace h := bif_t b40 h
                obtain ⟨c41, h⟩ := chk_some h
                obtain ⟨c42, h⟩ := chk_some h
                obtain ⟨y43, hy43, h⟩ := bind_some h
                repeat (first | refine Ob.mk (by first | rfl | omega | assumption | exact ⟨rfl, rfl, (List.length_map _).symm⟩ | exact ⟨rfl, rfl, by rw [List.length_map]; omega⟩) ?_ | refine Br.t ?_ | refine Br.f ?_)
                refine CallD.mk _ _ (g_order_Compare.ok n ((((y2 ++ x20) ++ (⟨#[46]⟩ : Str)) ++ y4) ++ (⟨#[45, 114, 99, 49]⟩ : Str)) ((((y2 ++ x20) ++ (⟨#[46]⟩ : Str)) ++ y4) ++ (⟨#[45, 114, 99, 50]⟩ : Str)) y43 hy43) (by exact ⟨DLe.refl _, DLe.refl _, trivial⟩) ?_
                repeat (first | refine Ob.mk (by first | rfl | omega | assumption | exact ⟨rfl, rfl, (List.length_map _).symm⟩ | exact ⟨rfl, rfl, by rw [List.length_map]; omega⟩) ?_ | refine Br.t ?_ | refine Br.f ?_)
                refine Br.mk (fun b44 => ?_) (fun b44 => ?_)
                · replace h := bif_t b44 h
                  obtain ⟨c45, h⟩ := chk_some h
                  obtain ⟨c46, h⟩ := chk_some h
                  obtain ⟨y47, hy47, h⟩ := bind_some h
                  repeat (first | refine Ob.mk (by first | rfl | omega | assumption | exact ⟨rfl, rfl, (List.length_map _).symm⟩ | exact ⟨rfl, rfl, by rw [List.length_map]; omega⟩) ?_ | refine Br.t ?_ | refine Br.f ?_)
                  refine CallD.mk _ _ (g_order_Compare.ok n ((((y2 ++ x20) ++ (⟨#[46]⟩ : Str)) ++ y4) ++ (⟨#[45, 114, 99]⟩ : Str)) ((((y2 ++ x20) ++ (⟨#[46]⟩ : Str)) ++ y4) ++ (⟨#[45, 114, 99, 49]⟩ : Str)) y47 hy47) (by exact ⟨DLe.refl _, DLe.refl _, trivial⟩) ?_
                  repeat (first | refine Ob.mk (by first | rfl | omega | assumption | exact ⟨rfl, rfl, (List.length_map _).symm⟩ | exact ⟨rfl, rfl, by rw [List.length_map]; omega⟩) ?_ | refine Br.t ?_ | refine Br.f ?_)
                  refine Br.mk (fun b48 => ?_) (fun b48 => ?_)
                  · replace h := bif_t b48 h
                    obtain ⟨c49, h⟩ := chk_some h
                    obtain ⟨c50, h⟩ := chk_some h
                    obtain ⟨y51, hy51, h⟩ := bind_some h
                    repeat (first | refine Ob.mk (by first | rfl | omega | assumption | exact ⟨rfl, rfl, (List.length_map _).symm⟩ | exact ⟨rfl, rfl, by rw [List.length_map]; omega⟩) ?_ | refine Br.t ?_ | refine Br.f ?_)
                    refine CallD.mk _ _ (g_order_Compare.ok n ((((y2 ++ x20) ++ (⟨#[46]⟩ : Str)) ++ y4) ++ (⟨#[45, 97, 108, 112, 104, 97, 45, 49]⟩ : Str)) ((((y2 ++ x20) ++ (⟨#[46]⟩ : Str)) ++ y4) ++ (⟨#[45, 98, 101, 116, 97]⟩ : Str)) y51 hy51) (by exact ⟨DLe.refl _, DLe.refl _, trivial⟩) ?_
                    repeat (first | refine Ob.mk (by first | rfl | omega | assumption | exact ⟨rfl, rfl, (List.length_map _).symm⟩ | exact ⟨rfl, rfl, by rw [List.length_map]; omega⟩) ?_ | refine Br.t ?_ | refine Br.f ?_)
                    refine WP_ret ?_
                    obtain rfl := Option.some.inj h
                    repeat (first | refine Ob.mk (by first | rfl | omega | assumption | exact ⟨rfl, rfl, (List.length_map _).symm⟩ | exact ⟨rfl, rfl, by rw [List.length_map]; omega⟩) ?_ | refine Br.t ?_ | refine Br.f ?_)
                    exact ⟨DLe.refl _, trivial⟩
                  · replace h := bif_f b48 h
                    repeat (first | refine Ob.mk (by first | rfl | omega | assumption | exact ⟨rfl, rfl, (List.length_map _).symm⟩ | exact ⟨rfl, rfl, by rw [List.length_map]; omega⟩) ?_ | refine Br.t ?_ | refine Br.f ?_)
                    refine WP_ret ?_
                    obtain rfl := Option.some.inj h
                    repeat (first | refine Ob.mk (by first | rfl | omega | assumption | exact ⟨rfl, rfl, (List.length_map _).symm⟩ | exact ⟨rfl, rfl, by rw [List.length_map]; omega⟩) ?_ | refine Br.t ?_ | refine Br.f ?_)
                    exact ⟨DLe.refl _, trivial⟩
                · replace h := bif_f b44 h
                  repeat (first | refine Ob.mk (by first | rfl | omega | assumption | exact ⟨rfl, rfl, (List.length_map _).symm⟩ | exact ⟨rfl, rfl, by rw [List.length_map]; omega⟩) ?_ | refine Br.t ?_ | refine Br.f ?_)
                  refine WP_ret ?_
                  obtain rfl := Option.some.inj h
                  repeat (first | refine Ob.mk (by first | rfl | omega | assumption | exact ⟨rfl, rfl, (List.length_map _).symm⟩ | exact ⟨rfl, rfl, by rw [List.length_map]; omega⟩) ?_ | refine Br.t ?_ | refine Br.f ?_)
                  exact ⟨DLe.refl _, trivial⟩
              · replace h := bif_f b40 h
                repeat (first | refine Ob.mk (by first | rfl | omega | assumption | exact ⟨rfl, rfl, (List.length_map _).symm⟩ | exact ⟨rfl, rfl, by rw [List.length_map]; omega⟩) ?_ | refine Br.t ?_ | refine Br.f ?_)
                refine WP_ret ?_
                obtain rfl := Option.some.inj h
                repeat (first | refine Ob.mk (by first | rfl | omega | assumption | exact ⟨rfl, rfl, (List.length_map _).symm⟩ | exact ⟨rfl, rfl, by rw [List.length_map]; omega⟩) ?_ | refine Br.t ?_ | refine Br.f ?_)
                exact ⟨DLe.refl _, trivial⟩
            · replace h := bif_f b36 h
              repeat (first | refine Ob.mk (by first | rfl | omega | assumption | exact ⟨rfl, rfl, (List.length_map _).symm⟩ | exact ⟨rfl, rfl, by rw [List.length_map]; omega⟩) ?_ | refine Br.t ?_ | refine Br.f ?_)
              refine WP_ret ?_
              obtain rfl := Option.some.inj h
              repeat (first | refine Ob.mk (by first | rfl | omega | assumption | exact ⟨rfl, rfl, (List.length_map _).symm⟩ | exact ⟨rfl, rfl, by rw [List.length_map]; omega⟩) ?_ | refine Br.t ?_ | refine Br.f ?_)
              exact ⟨DLe.refl _, trivial⟩
          · replace h := bif_f b33 h
            repeat (first | refine Ob.mk (by first | rfl | omega | assumption | exact ⟨rfl, rfl, (List.length_map _).symm⟩ | exact ⟨rfl, rfl, by rw [List.length_map]; omega⟩) ?_ | refine Br.t ?_ | refine Br.f ?_)
            refine WP_ret ?_
            obtain rfl := Option.some.inj h
            repeat (first | refine Ob.mk (by first | rfl | omega | assumption | exact ⟨rfl, rfl, (List.length_map _).symm⟩ | exact ⟨rfl, rfl, by rw [List.length_map]; omega⟩) ?_ | refine Br.t ?_ | refine Br.f ?_)
            exact ⟨DLe.refl _, trivial⟩
        · replace h := bif_f b30 h
          repeat (first | refine Ob.mk (by first | rfl | omega | assumption | exact ⟨rfl, rfl, (List.length_map _).symm⟩ | exact ⟨rfl, rfl, by rw [List.length_map]; omega⟩) ?_ | refine Br.t ?_ | refine Br.f ?_)
          refine WP_ret ?_
          obtain rfl := Option.some.inj h
          repeat (first | refine Ob.mk (by first | rfl | omega | assumption | exact ⟨rfl, rfl, (List.length_map _).symm⟩ | exact ⟨rfl, rfl, by rw [List.length_map]; omega⟩) ?_ | refine Br.t ?_ | refine Br.f ?_)
          exact ⟨DLe.refl _, trivial⟩
      · replace h := bif_f b27 h
        repeat (first | refine Ob.mk (by first | rfl | omega | assumption | exact ⟨rfl, rfl, (List.length_map _).symm⟩ | exact ⟨rfl, rfl, by rw [List.length_map]; omega⟩) ?_ | refine Br.t ?_ | refine Br.f ?_)
        refine WP_ret ?_
        obtain rfl := Option.some.inj h
        repeat (first | refine Ob.mk (by first | rfl | omega | assumption | exact ⟨rfl, rfl, (List.length_map _).symm⟩ | exact ⟨rfl, rfl, by rw [List.length_map]; omega⟩) ?_ | refine Br.t ?_ | refine Br.f ?_)
        exact ⟨DLe.refl _, trivial⟩
    · replace h := bif_f b25 h
      repeat (first | refine Ob.mk (by first | rfl | omega | assumption | exact ⟨rfl, rfl, (List.length_map _).symm⟩ | exact ⟨rfl, rfl, by rw [List.length_map]; omega⟩) ?_ | refine Br.t ?_ | refine Br.f ?_)
      refine WP_ret ?_
      obtain rfl := Option.some.inj h
      repeat (first | refine Ob.mk (by first | rfl | omega | assumption | exact ⟨rfl, rfl, (List.length_map _).symm⟩ | exact ⟨rfl, rfl, by rw [List.length_map]; omega⟩) ?_ | refine Br.t ?_ | refine Br.f ?_)
      exact ⟨DLe.refl _, trivial⟩
  rintro ⟨⟨m19, x52, x53⟩, h⟩
  cases m19 with
  | zero => exact nomatch (show (none : Option (Bool)) = some r from h)
  | succ m19 =>
    replace h : g_newellaw06_OrderMiddle.l19b n y2 y4 (g_newellaw06_OrderMiddle.l19 n y2 y4 m19) x52 x53 = some r := h
    unfold g_newellaw06_OrderMiddle.l19b at h
    try dsimp only
    refine WP_seq ?_
    refine WP_seq ?_
    refine vcc_sound _ _ _ tabOk (by exact rfl) ?_
    repeat (first | refine Ob.mk (by first | rfl | omega | assumption | exact ⟨rfl, rfl, (List.length_map _).symm⟩ | exact ⟨rfl, rfl, by rw [List.length_map]; omega⟩) ?_ | refine Br.t ?_ | refine Br.f ?_)
    refine vcc_sound _ _ _ tabOk (by exact rfl) ?_
    repeat (first | refine Ob.mk (by first | rfl | omega | assumption | exact ⟨rfl, rfl, (List.length_map _).symm⟩ | exact ⟨rfl, rfl, by rw [List.length_map]; omega⟩) ?_ | refine Br.t ?_ | refine Br.f ?_)
    refine Br.mk (fun b55 => ?_) (fun b55 => ?_)
    · replace h := bif_t b55 h
      refine WP_skip ?_
      refine WP_seq ?_
      refine WP_block ?_
      refine vcc_sound _ _ _ tabOk (by exact rfl) ?_
      obtain ⟨c56, h⟩ := chk_some h
      repeat (first | refine Ob.mk (by first | rfl | omega | assumption | exact ⟨rfl, rfl, (List.length_map _).symm⟩ | exact ⟨rfl, rfl, by rw [List.length_map]; omega⟩) ?_ | refine Br.t ?_ | refine Br.f ?_)
      refine vcc_sound _ _ _ tabOk (by exact rfl) ?_
      obtain ⟨c57, h⟩ := chk_some h
      repeat (first | refine Ob.mk (by first | rfl | omega | assumption | exact ⟨rfl, rfl, (List.length_map _).symm⟩ | exact ⟨rfl, rfl, by rw [List.length_map]; omega⟩) ?_ | refine Br.t ?_ | refine Br.f ?_)
      repeat (first | refine Ob.mk (by first | rfl | omega | assumption | exact ⟨rfl, rfl, (List.length_map _).symm⟩ | exact ⟨rfl, rfl, by rw [List.length_map]; omega⟩) ?_ | refine Br.t ?_ | refine Br.f ?_)
      exact ⟨⟨(m19, (x52 ++ (⟨#[46, 48]⟩ : Str)), (x53 - 1)), h⟩, Nat.lt_succ_self _, Sub.ofL _ _ (Nat.zero_le _) ⟨rfl, rfl, rfl, rfl, rfl, rfl, rfl, rfl, trivial⟩ rfl rfl⟩
    · replace h := bif_f b55 h
      refine WP_exit ?_
      repeat (first | refine Ob.mk (by first | rfl | omega | assumption | exact ⟨rfl, rfl, (List.length_map _).symm⟩ | exact ⟨rfl, rfl, by rw [List.length_map]; omega⟩) ?_ | refine Br.t ?_ | refine Br.f ?_)
      exact ⟨⟨x52, h⟩, Sub.ofL _ _ (Nat.zero_le _) ⟨rfl, rfl, rfl, rfl, rfl, rfl, trivial⟩ rfl rfl⟩

end Go.Proofs.Nw.K
end
section
/- QL2: plain law OrderRanks. -/
open Go Go.RowKit Go.Proofs Go.Sort Go.Shelf
set_option linter.unusedVariables false
set_option linter.unusedSimpArgs false
namespace Go.Proofs.Nw.K

theorem modN (a : Int) (k : Nat) (hk : 0 < k) (hk2 : k ≤ 4000000) : ∃ i : Nat, i < k ∧ (IntKind.wrap .u64 a).tmod k = (i : Int) ∧ IntKind.wrap .i64 ((IntKind.wrap .u64 a).tmod k) = (i : Int) := by
  have h0 : 0 ≤ IntKind.wrap .u64 a := by
    simp only [IntKind.wrap, IntKind.bits, IntKind.signed]
    simp
    omega
  have h1 : (IntKind.wrap .u64 a).tmod k = (IntKind.wrap .u64 a) % k := Int.tmod_eq_emod_of_nonneg h0
  have h2 : 0 ≤ (IntKind.wrap .u64 a) % (k : Int) := Int.emod_nonneg _ (by omega)
  have h3 : (IntKind.wrap .u64 a) % (k : Int) < k := Int.emod_lt_of_pos _ (by omega)
  refine ⟨((IntKind.wrap .u64 a) % (k : Int)).toNat, by omega, by rw [h1]; omega, ?_⟩
  rw [h1, wrap_i64_id _ (by omega) (by omega)]
  omega

def rl : List Str := [(⟨#[45, 97, 108, 112, 104, 97]⟩ : Str), (⟨#[45, 98, 101, 116, 97]⟩ : Str), (⟨#[45, 109, 105, 108, 101, 115, 116, 111, 110, 101]⟩ : Str), (⟨#[45, 114, 99]⟩ : Str), (⟨#[45, 115, 110, 97, 112, 115, 104, 111, 116]⟩ : Str), emp, (⟨#[45, 115, 112]⟩ : Str), (⟨#[45, 120]⟩ : Str), (⟨#[45, 49]⟩ : Str), (⟨#[46, 49]⟩ : Str)]
def dg (m : Nat) : Str := (g_newelhelp_Digits 10 (m : Int)).getD emp
def rw1 (m : Nat) : List (List Wd) := rl.map fun s => splitOf (dg m ++ s)
def ranksOk (m : Nat) : Bool := (List.range 10).all fun i => (List.range 10).all fun k => wordsCmp ((rw1 m).getD i []) ((rw1 m).getD k []) == cmpI i k
def dgOk (m : Nat) : Bool := (g_newelhelp_Digits 10 (m : Int)).isSome && decide ((dg m).size ≤ 3)
theorem rk0 : ((List.range 25).all fun m => ranksOk (m + 1)) = true := by kernel_rfl
theorem rk1 : ((List.range 25).all fun m => ranksOk (m + 26)) = true := by kernel_rfl
theorem rk2 : ((List.range 25).all fun m => ranksOk (m + 51)) = true := by kernel_rfl
theorem rk3 : ((List.range 25).all fun m => ranksOk (m + 76)) = true := by kernel_rfl
theorem dk : ((List.range 200).all fun m => dgOk (m + 1)) = true := by kernel_rfl
theorem rlsz : ((List.range 10).all fun i => decide ((rl.getD i emp).size ≤ 10)) = true := by kernel_rfl
theorem rk (m : Nat) (h1 : 1 ≤ m) (h2 : m ≤ 100) : ranksOk m = true := by
  have g : ∀ a : Nat, ((List.range 25).all fun m => ranksOk (m + a)) = true → a ≤ m → m < a + 25 → ranksOk m = true := fun a h h3 h4 => by
    have := List.all_eq_true.1 h (m - a) (List.mem_range.2 (by omega))
    rwa [Nat.sub_add_cancel h3] at this
  by_cases c1 : m < 26
  · exact g 1 rk0 (by omega) (by omega)
  by_cases c2 : m < 51
  · exact g 26 rk1 (by omega) (by omega)
  by_cases c3 : m < 76
  · exact g 51 rk2 (by omega) (by omega)
  · exact g 76 rk3 (by omega) (by omega)
theorem rank_cmp (m i k : Nat) (h1 : 1 ≤ m) (h2 : m ≤ 100) (hi : i < 10) (hk : k < 10) : cmpV (dg m ++ rl.getD i emp) (dg m ++ rl.getD k emp) = cmpI i k := by
  have h := rk m h1 h2
  have h := List.all_eq_true.1 (List.all_eq_true.1 h i (List.mem_range.2 hi)) k (List.mem_range.2 hk)
  have h : wordsCmp ((rw1 m).getD i []) ((rw1 m).getD k []) = cmpI i k := by simpa using h
  have e : ∀ i, i < 10 → (rw1 m).getD i [] = splitOf (dg m ++ rl.getD i emp) := fun i hi => by
    have : i < rl.length := hi
    simp [rw1, this]
  rw [e i hi, e k hk] at h
  exact h
theorem dg_some (m : Nat) (h1 : 1 ≤ m) (h2 : m ≤ 200) : g_newelhelp_Digits 10 (m : Int) = some (dg m) ∧ (dg m).size ≤ 3 := by
  have h := List.all_eq_true.1 dk (m - 1) (List.mem_range.2 (by omega))
  rw [show m - 1 + 1 = m by omega] at h
  simp only [dgOk, Bool.and_eq_true, decide_eq_true_eq] at h
  refine ⟨?_, h.2⟩
  obtain ⟨v, hv⟩ := Option.isSome_iff_exists.1 h.1
  rw [dg, hv]; rfl
theorem rl_size (i : Nat) (h : i < 10) : (rl.getD i emp).size ≤ 10 := by
  have := List.all_eq_true.1 rlsz i (List.mem_range.2 h)
  simpa using this

theorem ranks_k4 (a0 a1 a2 : Int) (i k m : Nat) (hi : i < 10) (hk : k < 10) (hm : m < 100) (e0 : IntKind.wrap .i64 ((IntKind.wrap .u64 a0).tmod 10) = i) (e1 : IntKind.wrap .i64 ((IntKind.wrap .u64 a1).tmod 10) = k) (e2 : IntKind.wrap .i64 ((IntKind.wrap .u64 a2).tmod 100) = m) (x : Int) (hx : x = cmpI i k) :
    g_newellaw06_OrderRanks.k4 10 a0 a1 a2 x = some true := by
  unfold g_newellaw06_OrderRanks.k4
  rw [e0, e1, e2]
  obtain ⟨d1, d2⟩ := dg_some (m + 1) (by omega) (by omega)
  have s1 := rl_size i hi
  have s2 := rl_size k hk
  rw [show (1 : Int) + (m : Int) = ((m + 1 : Nat) : Int) by omega, chk_t (by unfold in64; omega), d1, Option.bind_some, awake_eq 7, Option.bind_some, cond_true]
  change (chk (0 ≤ (i : Int) ∧ (i : Int) < (rl.length : Int)) <| chk (textOk ((dg (m + 1)).size + (rl.getD (i : Int).toNat emp).size)) <| chk (0 ≤ (k : Int) ∧ (k : Int) < (rl.length : Int)) <| chk (textOk ((dg (m + 1)).size + (rl.getD (k : Int).toNat emp).size)) <|
    (g_order_Compare 10 (dg (m + 1) ++ rl.getD (i : Int).toNat emp) (dg (m + 1) ++ rl.getD (k : Int).toNat emp)).bind fun y => some (y == x)) = some true
  rw [Int.toNat_natCast, Int.toNat_natCast]
  have hl : (rl.length : Int) = 10 := rfl
  rw [hl]
  rw [chk_t ⟨by omega, by omega⟩, chk_t (by unfold textOk; omega), chk_t ⟨by omega, by omega⟩, chk_t (by unfold textOk; omega)]
  rw [g_order_Compare_eq _ _ _ (by rw [app_size]; omega) (by rw [app_size]; omega), Option.bind_some, rank_cmp (m + 1) i k (by omega) (by omega) hi hk, hx]
  simp

theorem orderRanks_eq (a0 a1 a2 : Int) : g_newellaw06_OrderRanks 10 a0 a1 a2 = some true := by
  obtain ⟨i, hi, _, e0⟩ := modN a0 10 (by decide) (by decide)
  obtain ⟨k, hk, _, e1⟩ := modN a1 10 (by decide) (by decide)
  obtain ⟨m, hm, _, e2⟩ := modN a2 100 (by decide) (by decide)
  have e0 : IntKind.wrap .i64 ((IntKind.wrap .u64 a0).tmod 10) = i := e0
  have e1 : IntKind.wrap .i64 ((IntKind.wrap .u64 a1).tmod 10) = k := e1
  have e2 : IntKind.wrap .i64 ((IntKind.wrap .u64 a2).tmod 100) = m := e2
  have hk4 := fun x hx => ranks_k4 a0 a1 a2 i k m hi hk hm e0 e1 e2 x hx
  unfold g_newellaw06_OrderRanks
  rw [e0, e1]
  have c := cmpI_spec (i : Int) (k : Int)
  by_cases h1 : (i : Int) < k
  · rw [decide_eq_true h1, cond_true]
    exact hk4 _ (by omega)
  · rw [decide_eq_false h1, cond_false]
    by_cases h2 : (i : Int) > k
    · rw [decide_eq_true h2, cond_true]
      exact hk4 _ (by omega)
    · rw [decide_eq_false h2, cond_false]
      exact hk4 _ (by omega)
theorem OrderRanks_impl (a b c : Int) (_ : isInt a) (_ : isInt b) (_ : isInt c) (_ : 1 + 1 + 1 ≤ 1048576) :
    Impl Tryd.prog 5 [.one (dint a), .one (dint b), .one (dint c)] [.one (.sc (.bool true))] := g_newellaw06_OrderRanks.ok 10 a b c true (orderRanks_eq a b c)
end Go.Proofs.Nw.K
end
