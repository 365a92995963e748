/- Bundle 13: NwQP5, NwQL7. -/
import Derived.Test.YtblenipidihemaaDoorNwA12
section
/- Printed by a program of mine (pg.py): functions that may have no answer, and that the code comes to them. -/
open Go Go.RowKit Go.Proofs
set_option linter.unusedVariables false
set_option linter.unusedSimpArgs false
set_option maxHeartbeats 1000000
namespace Go.Proofs.Nw.K

/-! ### slices.MaxFunc[[]string,string] -/
def g_slices_MaxFunc_string_string__order_whole.k26 (n : Nat) (x27 : Str) : Option (Str) :=
  some x27
def g_slices_MaxFunc_string_string__order_whole.l26b (n : Nat) (a0 : (List Str)) (rec26 : Str → Int → Option (Str)) (x28 : Str) (x29 : Int) : Option (Str) :=
  bif (decide (x29 < (a0.length : Int))) then (
    chk (0 ≤ x29 ∧ x29 < (a0.length : Int)) <|
    (g_order_whole n (a0.getD x29.toNat emp) x28).bind fun y33 =>
    bif (decide (y33 > 0)) then (
      chk (0 ≤ x29 ∧ x29 < (a0.length : Int)) <|
      chk (in64 (x29 + 1)) <|
      rec26 (a0.getD x29.toNat emp) (x29 + 1)
    ) else (
      chk (in64 (x29 + 1)) <|
      rec26 x28 (x29 + 1)
    )
  ) else (
    g_slices_MaxFunc_string_string__order_whole.k26 n x28
  )
def g_slices_MaxFunc_string_string__order_whole.l26 (n : Nat) (a0 : (List Str)) : Nat → Str → Int → Option (Str)
  | 0, _, _ => none
  | m + 1, x28, x29 => g_slices_MaxFunc_string_string__order_whole.l26b n a0 (g_slices_MaxFunc_string_string__order_whole.l26 n a0 m) x28 x29
def g_slices_MaxFunc_string_string__order_whole (n : Nat) (a0 : (List Str)) : Option (Str) :=
  bif (decide ((a0.length : Int) < 1)) then (
    none
  ) else (
    chk (0 ≤ (0 : Int) ∧ 0 < (a0.length : Int)) <|
    g_slices_MaxFunc_string_string__order_whole.l26 n a0 n (a0.getD 0 emp) 1
  )
theorem g_slices_MaxFunc_string_string__order_whole.ok (n : Nat) (a0 : (List Str)) (r : Str) (h : g_slices_MaxFunc_string_string__order_whole n a0 = some r) : Impl Tryd.prog 37 [.one (.tl Str 1 encStr emp a0), .one (.sc (.func (.func 38) #[] #[]))] [.one (dstr r)] := by
  refine impl_wp tabOk Tryd.func37 rfl rfl (by kernel_rfl) ?_
  unfold g_slices_MaxFunc_string_string__order_whole at h
  refine WP_seq ?_
  refine vcc_sound _ _ _ tabOk (by exact rfl) ?_
  repeat (first | refine Ob.mk (by first | rfl | omega | assumption | exact ⟨rfl, rfl, (List.length_map _).symm⟩ | exact ⟨rfl, rfl, by rw [List.length_map]; omega⟩) ?_ | refine Br.t ?_ | refine Br.f ?_)
  refine WP_seq ?_
  refine WP_seq ?_
  refine vcc_sound _ _ _ tabOk (by exact rfl) ?_
  repeat (first | refine Ob.mk (by first | rfl | omega | assumption | exact ⟨rfl, rfl, (List.length_map _).symm⟩ | exact ⟨rfl, rfl, by rw [List.length_map]; omega⟩) ?_ | refine Br.t ?_ | refine Br.f ?_)
  refine vcc_sound _ _ _ tabOk (by exact rfl) ?_
  repeat (first | refine Ob.mk (by first | rfl | omega | assumption | exact ⟨rfl, rfl, (List.length_map _).symm⟩ | exact ⟨rfl, rfl, by rw [List.length_map]; omega⟩) ?_ | refine Br.t ?_ | refine Br.f ?_)
  refine Br.mk (fun b2 => ?_) (fun b2 => ?_)
  · replace h := bif_t b2 h
    refine vcc_sound _ _ _ tabOk (by exact rfl) ?_
    exact nomatch h
  · replace h := bif_f b2 h
    refine WP_skip ?_
    refine WP_seq ?_
    refine vcc_sound _ _ _ tabOk (by exact rfl) ?_
    obtain ⟨c3, h⟩ := chk_some h
    repeat (first | refine Ob.mk (by first | rfl | omega | assumption | exact ⟨rfl, rfl, (List.length_map _).symm⟩ | exact ⟨rfl, rfl, by rw [List.length_map]; omega⟩) ?_ | refine Br.t ?_ | refine Br.f ?_)
    refine WP_seq ?_
    refine WP_seq ?_
    refine vcc_sound _ _ _ tabOk (by exact rfl) ?_
    repeat (first | refine Ob.mk (by first | rfl | omega | assumption | exact ⟨rfl, rfl, (List.length_map _).symm⟩ | exact ⟨rfl, rfl, by rw [List.length_map]; omega⟩) ?_ | refine Br.t ?_ | refine Br.f ?_)
    refine WP_cutQ (α := {p : Str // g_slices_MaxFunc_string_string__order_whole.k26 n p = some r}) (fun p => ofL [(5, .str p.1)]) (fun p => []) (WP_block (WP_loop (α := {x : Nat × Str × Int // g_slices_MaxFunc_string_string__order_whole.l26 n a0 x.1 x.2.1 x.2.2 = some r}) (fun x => ofL [(0, .d (.tl Str 1 encStr emp a0)), (1, fnAV 38), (5, .str x.1.2.1), (6, .int x.1.2.2)]) (fun x => []) (fun x => x.1.1) ⟨(n, (a0.getD 0 emp), 1), h⟩ (Sub.ofL _ _ (Nat.zero_le _) ⟨rfl, rfl, rfl, rfl, rfl, rfl, rfl, rfl, trivial⟩ rfl rfl) ?_)) ?_
    rotate_left
    · rintro ⟨x27, h⟩ env st hs
      replace h : g_slices_MaxFunc_string_string__order_whole.k26 n x27 = some r := h
      unfold g_slices_MaxFunc_string_string__order_whole.k26 at h
      refine WP_sub hs ?_
      try dsimp only
      refine WP_seq ?_
      refine vcc_sound _ _ _ tabOk (by exact rfl) ?_
      repeat (first | refine Ob.mk (by first | rfl | omega | assumption | exact ⟨rfl, rfl, (List.length_map _).symm⟩ | exact ⟨rfl, rfl, by rw [List.length_map]; omega⟩) ?_ | refine Br.t ?_ | refine Br.f ?_)
      refine WP_ret ?_
      obtain rfl := Option.some.inj h
      repeat (first | refine Ob.mk (by first | rfl | omega | assumption | exact ⟨rfl, rfl, (List.length_map _).symm⟩ | exact ⟨rfl, rfl, by rw [List.length_map]; omega⟩) ?_ | refine Br.t ?_ | refine Br.f ?_)
      exact ⟨DLe.refl _, trivial⟩
    rintro ⟨⟨m26, x28, x29⟩, h⟩
    cases m26 with
    | zero => exact nomatch (show (none : Option (Str)) = some r from h)
    | succ m26 =>
      replace h : g_slices_MaxFunc_string_string__order_whole.l26b n a0 (g_slices_MaxFunc_string_string__order_whole.l26 n a0 m26) x28 x29 = some r := h
      unfold g_slices_MaxFunc_string_string__order_whole.l26b at h
      try dsimp only
      refine WP_seq ?_
      refine WP_seq ?_
      refine vcc_sound _ _ _ tabOk (by exact rfl) ?_
      repeat (first | refine Ob.mk (by first | rfl | omega | assumption | exact ⟨rfl, rfl, (List.length_map _).symm⟩ | exact ⟨rfl, rfl, by rw [List.length_map]; omega⟩) ?_ | refine Br.t ?_ | refine Br.f ?_)
      refine vcc_sound _ _ _ tabOk (by exact rfl) ?_
      repeat (first | refine Ob.mk (by first | rfl | omega | assumption | exact ⟨rfl, rfl, (List.length_map _).symm⟩ | exact ⟨rfl, rfl, by rw [List.length_map]; omega⟩) ?_ | refine Br.t ?_ | refine Br.f ?_)
      refine Br.mk (fun b31 => ?_) (fun b31 => ?_)
      · replace h := bif_t b31 h
        refine WP_skip ?_
        refine WP_seq ?_
        refine WP_block ?_
        refine WP_seq ?_
        refine vcc_sound _ _ _ tabOk (by exact rfl) ?_
        obtain ⟨c32, h⟩ := chk_some h
        obtain ⟨y33, hy33, h⟩ := bind_some h
        repeat (first | refine Ob.mk (by first | rfl | omega | assumption | exact ⟨rfl, rfl, (List.length_map _).symm⟩ | exact ⟨rfl, rfl, by rw [List.length_map]; omega⟩) ?_ | refine Br.t ?_ | refine Br.f ?_)
        refine CallD.mk _ _ (g_order_whole.ok n (a0.getD x29.toNat emp) x28 y33 hy33) (by exact ⟨DLe.refl _, DLe.refl _, trivial⟩) ?_
        repeat (first | refine Ob.mk (by first | rfl | omega | assumption | exact ⟨rfl, rfl, (List.length_map _).symm⟩ | exact ⟨rfl, rfl, by rw [List.length_map]; omega⟩) ?_ | refine Br.t ?_ | refine Br.f ?_)
        refine vcc_sound _ _ _ tabOk (by exact rfl) ?_
        repeat (first | refine Ob.mk (by first | rfl | omega | assumption | exact ⟨rfl, rfl, (List.length_map _).symm⟩ | exact ⟨rfl, rfl, by rw [List.length_map]; omega⟩) ?_ | refine Br.t ?_ | refine Br.f ?_)
        refine Br.mk (fun b34 => ?_) (fun b34 => ?_)
        · replace h := bif_t b34 h
          refine vcc_sound _ _ _ tabOk (by exact rfl) ?_
          obtain ⟨c35, h⟩ := chk_some h
          repeat (first | refine Ob.mk (by first | rfl | omega | assumption | exact ⟨rfl, rfl, (List.length_map _).symm⟩ | exact ⟨rfl, rfl, by rw [List.length_map]; omega⟩) ?_ | refine Br.t ?_ | refine Br.f ?_)
          refine vcc_sound _ _ _ tabOk (by exact rfl) ?_
          obtain ⟨c36, h⟩ := chk_some h
          repeat (first | refine Ob.mk (by first | rfl | omega | assumption | exact ⟨rfl, rfl, (List.length_map _).symm⟩ | exact ⟨rfl, rfl, by rw [List.length_map]; omega⟩) ?_ | refine Br.t ?_ | refine Br.f ?_)
          repeat (first | refine Ob.mk (by first | rfl | omega | assumption | exact ⟨rfl, rfl, (List.length_map _).symm⟩ | exact ⟨rfl, rfl, by rw [List.length_map]; omega⟩) ?_ | refine Br.t ?_ | refine Br.f ?_)
          exact ⟨⟨(m26, (a0.getD x29.toNat emp), (x29 + 1)), h⟩, Nat.lt_succ_self _, Sub.ofL _ _ (Nat.zero_le _) ⟨rfl, rfl, rfl, rfl, rfl, rfl, rfl, rfl, trivial⟩ rfl rfl⟩
        · replace h := bif_f b34 h
          refine WP_skip ?_
          refine vcc_sound _ _ _ tabOk (by exact rfl) ?_
          obtain ⟨c37, h⟩ := chk_some h
          repeat (first | refine Ob.mk (by first | rfl | omega | assumption | exact ⟨rfl, rfl, (List.length_map _).symm⟩ | exact ⟨rfl, rfl, by rw [List.length_map]; omega⟩) ?_ | refine Br.t ?_ | refine Br.f ?_)
          repeat (first | refine Ob.mk (by first | rfl | omega | assumption | exact ⟨rfl, rfl, (List.length_map _).symm⟩ | exact ⟨rfl, rfl, by rw [List.length_map]; omega⟩) ?_ | refine Br.t ?_ | refine Br.f ?_)
          exact ⟨⟨(m26, x28, (x29 + 1)), h⟩, Nat.lt_succ_self _, Sub.ofL _ _ (Nat.zero_le _) ⟨rfl, rfl, rfl, rfl, rfl, rfl, rfl, rfl, trivial⟩ rfl rfl⟩
      · replace h := bif_f b31 h
        refine WP_exit ?_
        repeat (first | refine Ob.mk (by first | rfl | omega | assumption | exact ⟨rfl, rfl, (List.length_map _).symm⟩ | exact ⟨rfl, rfl, by rw [List.length_map]; omega⟩) ?_ | refine Br.t ?_ | refine Br.f ?_)
        exact ⟨⟨x28, h⟩, Sub.ofL _ _ (Nat.zero_le _) ⟨rfl, rfl, trivial⟩ rfl rfl⟩

/-! ### newel/order.Greatest -/
def g_order_Greatest (n : Nat) (a0 : (List Str)) : Option (Str × Bool) :=
  bif ((a0.length : Int) == 0) then (
    some (emp, false)
  ) else (
    (g_slices_MaxFunc_string_string__order_whole n a0).bind fun y3 =>
    some (y3, true)
  )
theorem g_order_Greatest.ok (n : Nat) (a0 : (List Str)) (r : Str × Bool) (h : g_order_Greatest n a0 = some r) : Impl Tryd.prog 19 [.one (.tl Str 1 encStr emp a0)] [.one (dstr r.1), .one (dbool r.2)] := by
  refine impl_wp tabOk Tryd.func19 rfl rfl (by kernel_rfl) ?_
  unfold g_order_Greatest at h
  refine WP_seq ?_
  refine vcc_sound _ _ _ tabOk (by exact rfl) ?_
  repeat (first | refine Ob.mk (by first | rfl | omega | assumption | exact ⟨rfl, rfl, (List.length_map _).symm⟩ | exact ⟨rfl, rfl, by rw [List.length_map]; omega⟩) ?_ | refine Br.t ?_ | refine Br.f ?_)
  refine WP_seq ?_
  refine WP_seq ?_
  refine vcc_sound _ _ _ tabOk (by exact rfl) ?_
  repeat (first | refine Ob.mk (by first | rfl | omega | assumption | exact ⟨rfl, rfl, (List.length_map _).symm⟩ | exact ⟨rfl, rfl, by rw [List.length_map]; omega⟩) ?_ | refine Br.t ?_ | refine Br.f ?_)
  refine vcc_sound _ _ _ tabOk (by exact rfl) ?_
  repeat (first | refine Ob.mk (by first | rfl | omega | assumption | exact ⟨rfl, rfl, (List.length_map _).symm⟩ | exact ⟨rfl, rfl, by rw [List.length_map]; omega⟩) ?_ | refine Br.t ?_ | refine Br.f ?_)
  refine Br.mk (fun b2 => ?_) (fun b2 => ?_)
  · replace h := bif_t b2 h
    refine WP_seq ?_
    refine vcc_sound _ _ _ tabOk (by exact rfl) ?_
    repeat (first | refine Ob.mk (by first | rfl | omega | assumption | exact ⟨rfl, rfl, (List.length_map _).symm⟩ | exact ⟨rfl, rfl, by rw [List.length_map]; omega⟩) ?_ | refine Br.t ?_ | refine Br.f ?_)
    refine WP_ret ?_
    obtain rfl := Option.some.inj h
    repeat (first | refine Ob.mk (by first | rfl | omega | assumption | exact ⟨rfl, rfl, (List.length_map _).symm⟩ | exact ⟨rfl, rfl, by rw [List.length_map]; omega⟩) ?_ | refine Br.t ?_ | refine Br.f ?_)
    exact ⟨DLe.refl _, DLe.refl _, trivial⟩
  · replace h := bif_f b2 h
    refine WP_skip ?_
    refine WP_seq ?_
    refine vcc_sound _ _ _ tabOk (by exact rfl) ?_
    obtain ⟨y3, hy3, h⟩ := bind_some h
    repeat (first | refine Ob.mk (by first | rfl | omega | assumption | exact ⟨rfl, rfl, (List.length_map _).symm⟩ | exact ⟨rfl, rfl, by rw [List.length_map]; omega⟩) ?_ | refine Br.t ?_ | refine Br.f ?_)
    refine CallD.mk _ _ (g_slices_MaxFunc_string_string__order_whole.ok n a0 y3 hy3) (by exact ⟨DLe.refl _, DLe.refl _, trivial⟩) ?_
    repeat (first | refine Ob.mk (by first | rfl | omega | assumption | exact ⟨rfl, rfl, (List.length_map _).symm⟩ | exact ⟨rfl, rfl, by rw [List.length_map]; omega⟩) ?_ | refine Br.t ?_ | refine Br.f ?_)
    refine WP_ret ?_
    obtain rfl := Option.some.inj h
    repeat (first | refine Ob.mk (by first | rfl | omega | assumption | exact ⟨rfl, rfl, (List.length_map _).symm⟩ | exact ⟨rfl, rfl, by rw [List.length_map]; omega⟩) ?_ | refine Br.t ?_ | refine Br.f ?_)
    exact ⟨DLe.refl _, DLe.refl _, trivial⟩

/-! ### newel/newellaw06.OrderSorts -/
def g_newellaw06_OrderSorts.k79 (n : Nat) (y44 : (List Str)) (y45 : Str × Bool) : Option (Bool) :=
  bif ((y44.length : Int) == 0) then (
    some true
  ) else (
    chk (in64 ((y44.length : Int) - 1)) <|
    chk (0 ≤ ((y44.length : Int) - 1) ∧ ((y44.length : Int) - 1) < (y44.length : Int)) <|
    some (y45.1.toList == (y44.getD (((y44.length : Int) - 1).toNat) emp).toList)
  )
def g_newellaw06_OrderSorts.l79b (n : Nat) (y44 : (List Str)) (y45 : Str × Bool) (rec79 : Int → Option (Bool)) (x83 : Int) : Option (Bool) :=
  bif (decide (x83 < (y44.length : Int))) then (
    chk (in64 (x83 - 1)) <|
    chk (0 ≤ (x83 - 1) ∧ (x83 - 1) < (y44.length : Int)) <|
    chk (0 ≤ x83 ∧ x83 < (y44.length : Int)) <|
    (g_order_Compare n (y44.getD ((x83 - 1).toNat) emp) (y44.getD x83.toNat emp)).bind fun y89 =>
    bif (decide (y89 > 0)) then (
      some false
    ) else (
      chk (in64 (x83 + 1)) <|
      rec79 (x83 + 1)
    )
  ) else (
    g_newellaw06_OrderSorts.k79 n y44 y45
  )
def g_newellaw06_OrderSorts.l79 (n : Nat) (y44 : (List Str)) (y45 : Str × Bool) : Nat → Int → Option (Bool)
  | 0, _ => none
  | m + 1, x83 => g_newellaw06_OrderSorts.l79b n y44 y45 (g_newellaw06_OrderSorts.l79 n y44 y45 m) x83
def g_newellaw06_OrderSorts.k42 (n : Nat) (a0 : (List Str)) (l43 : (List Str)) : Option (Bool) :=
  (g_order_Sort n a0).bind fun y44 =>
  (g_order_Greatest n l43).bind fun y45 =>
  (g_newellaw06_awake n).bind fun y53 =>
  bif (!y53) then (
    some false
  ) else (
    bif ((y44.length : Int) != (a0.length : Int)) then (
      some false
    ) else (
      (g_order_Sort n l43).bind fun y56 =>
      (g_newelhelp_Plain_string n y56 y44).bind fun y57 =>
      bif (!y57) then (
        some false
      ) else (
        bif (!(y45.2 == decide ((a0.length : Int) > 0))) then (
          some false
        ) else (
          g_newellaw06_OrderSorts.l79 n y44 y45 n 1
        )
      )
    )
  )
def g_newellaw06_OrderSorts.l42b (n : Nat) (a0 : (List Str)) (a1 : (List Int)) (rec42 : (List Str) → Int → Option (Bool)) (l92 : (List Str)) (x93 : Int) : Option (Bool) :=
  bif (decide (x93 < (a1.length : Int))) then (
    bif (decide (x93 < 30)) then (
      bif (decide ((l92.length : Int) > 0)) then (
        chk (0 ≤ x93 ∧ x93 < (a1.length : Int)) <|
        chk ((IntKind.wrap .u64 (l92.length : Int)) ≠ 0) <|
        chk ((l92.length : Int) ≠ 0) <|
        chk (0 ≤ (IntKind.wrap .i64 ((IntKind.wrap .u64 (a1.getD x93.toNat (0 : Int))).tmod (IntKind.wrap .u64 (l92.length : Int)))) ∧ (IntKind.wrap .i64 ((IntKind.wrap .u64 (a1.getD x93.toNat (0 : Int))).tmod (IntKind.wrap .u64 (l92.length : Int)))) < (l92.length : Int)) <|
        chk ((l92.length : Int) ≠ 0) <|
        chk (0 ≤ (x93.tmod (l92.length : Int)) ∧ (x93.tmod (l92.length : Int)) < (l92.length : Int)) <|
        chk (0 ≤ (x93.tmod (l92.length : Int)) ∧ (x93.tmod (l92.length : Int)) < (l92.length : Int)) <|
        chk (0 ≤ (IntKind.wrap .i64 ((IntKind.wrap .u64 (a1.getD x93.toNat (0 : Int))).tmod (IntKind.wrap .u64 (l92.length : Int)))) ∧ (IntKind.wrap .i64 ((IntKind.wrap .u64 (a1.getD x93.toNat (0 : Int))).tmod (IntKind.wrap .u64 (l92.length : Int)))) < (l92.length : Int)) <|
        chk (in64 (x93 + 1)) <|
        rec42 ((l92.set ((x93.tmod (l92.length : Int)).toNat) (l92.getD ((IntKind.wrap .i64 ((IntKind.wrap .u64 (a1.getD x93.toNat (0 : Int))).tmod (IntKind.wrap .u64 (l92.length : Int)))).toNat) emp)).set ((IntKind.wrap .i64 ((IntKind.wrap .u64 (a1.getD x93.toNat (0 : Int))).tmod (IntKind.wrap .u64 (l92.length : Int)))).toNat) (l92.getD ((x93.tmod (l92.length : Int)).toNat) emp)) (x93 + 1)
      ) else (
        g_newellaw06_OrderSorts.k42 n a0 l92
      )
    ) else (
      g_newellaw06_OrderSorts.k42 n a0 l92
    )
  ) else (
    g_newellaw06_OrderSorts.k42 n a0 l92
  )
def g_newellaw06_OrderSorts.l42 (n : Nat) (a0 : (List Str)) (a1 : (List Int)) : Nat → (List Str) → Int → Option (Bool)
  | 0, _, _ => none
  | m + 1, l92, x93 => g_newellaw06_OrderSorts.l42b n a0 a1 (g_newellaw06_OrderSorts.l42 n a0 a1 m) l92 x93
def g_newellaw06_OrderSorts (n : Nat) (a0 : (List Str)) (a1 : (List Int)) : Option (Bool) :=
  (g_newellaw06_few n a0).bind fun y4 =>
  bif (!y4) then (
    (g_newellaw06_awake n).bind fun y6 =>
    some y6
  ) else (
    chk (room a0.length 16) <|
    g_newellaw06_OrderSorts.l42 n a0 a1 n a0 0
  )
theorem g_newellaw06_OrderSorts.ok (n : Nat) (a0 : (List Str)) (a1 : (List Int)) (r : Bool) (h : g_newellaw06_OrderSorts n a0 a1 = some r) : Impl Tryd.prog 9 [.one (.tl Str 1 encStr emp a0), .one (.tl Int 1 encInt (0 : Int) a1)] [.one (dbool r)] := by
  refine impl_wp tabOk Tryd.func9 rfl rfl (by kernel_rfl) ?_
  unfold g_newellaw06_OrderSorts at h
  refine WP_seq ?_
  refine vcc_sound _ _ _ tabOk (by exact rfl) ?_
  repeat (first | refine Ob.mk (by first | rfl | omega | assumption | exact ⟨rfl, rfl, (List.length_map _).symm⟩ | exact ⟨rfl, rfl, by rw [List.length_map]; omega⟩) ?_ | refine Br.t ?_ | refine Br.f ?_)
  refine WP_seq ?_
  refine WP_seq ?_
  refine vcc_sound _ _ _ tabOk (by exact rfl) ?_
  obtain ⟨y4, hy4, h⟩ := bind_some h
  repeat (first | refine Ob.mk (by first | rfl | omega | assumption | exact ⟨rfl, rfl, (List.length_map _).symm⟩ | exact ⟨rfl, rfl, by rw [List.length_map]; omega⟩) ?_ | refine Br.t ?_ | refine Br.f ?_)
  refine CallD.mk _ _ (g_newellaw06_few.ok n a0 y4 hy4) (by exact ⟨DLe.refl _, trivial⟩) ?_
  repeat (first | refine Ob.mk (by first | rfl | omega | assumption | exact ⟨rfl, rfl, (List.length_map _).symm⟩ | exact ⟨rfl, rfl, by rw [List.length_map]; omega⟩) ?_ | refine Br.t ?_ | refine Br.f ?_)
  refine vcc_sound _ _ _ tabOk (by exact rfl) ?_
  repeat (first | refine Ob.mk (by first | rfl | omega | assumption | exact ⟨rfl, rfl, (List.length_map _).symm⟩ | exact ⟨rfl, rfl, by rw [List.length_map]; omega⟩) ?_ | refine Br.t ?_ | refine Br.f ?_)
  refine Br.mk (fun b5 => ?_) (fun b5 => ?_)
  · replace h := bif_t b5 h
    refine WP_seq ?_
    refine vcc_sound _ _ _ tabOk (by exact rfl) ?_
    obtain ⟨y6, hy6, h⟩ := bind_some h
    repeat (first | refine Ob.mk (by first | rfl | omega | assumption | exact ⟨rfl, rfl, (List.length_map _).symm⟩ | exact ⟨rfl, rfl, by rw [List.length_map]; omega⟩) ?_ | refine Br.t ?_ | refine Br.f ?_)
    refine CallD.mk _ _ (g_newellaw06_awake.ok n y6 hy6) (by exact trivial) ?_
    repeat (first | refine Ob.mk (by first | rfl | omega | assumption | exact ⟨rfl, rfl, (List.length_map _).symm⟩ | exact ⟨rfl, rfl, by rw [List.length_map]; omega⟩) ?_ | refine Br.t ?_ | refine Br.f ?_)
    refine WP_ret ?_
    obtain rfl := Option.some.inj h
    repeat (first | refine Ob.mk (by first | rfl | omega | assumption | exact ⟨rfl, rfl, (List.length_map _).symm⟩ | exact ⟨rfl, rfl, by rw [List.length_map]; omega⟩) ?_ | refine Br.t ?_ | refine Br.f ?_)
    exact ⟨DLe.refl _, trivial⟩
  · replace h := bif_f b5 h
    refine WP_skip ?_
    refine WP_seq ?_
    refine vcc_sound _ _ _ tabOk (by exact rfl) ?_
    obtain ⟨c7, h⟩ := chk_some h
    repeat (first | refine Ob.mk (by first | rfl | omega | assumption | exact ⟨rfl, rfl, (List.length_map _).symm⟩ | exact ⟨rfl, rfl, by rw [List.length_map]; omega⟩) ?_ | refine Br.t ?_ | refine Br.f ?_)
    refine AppN.ty encStr a0 ?_ c7 ?_
    · exact rfl
    repeat (first | refine Ob.mk (by first | rfl | omega | assumption | exact ⟨rfl, rfl, (List.length_map _).symm⟩ | exact ⟨rfl, rfl, by rw [List.length_map]; omega⟩) ?_ | refine Br.t ?_ | refine Br.f ?_)
    refine WP_seq ?_
    refine WP_seq ?_
    refine vcc_sound _ _ _ tabOk (by exact rfl) ?_
    repeat (first | refine Ob.mk (by first | rfl | omega | assumption | exact ⟨rfl, rfl, (List.length_map _).symm⟩ | exact ⟨rfl, rfl, by rw [List.length_map]; omega⟩) ?_ | refine Br.t ?_ | refine Br.f ?_)
    refine WP_cutQ (α := {p : (List Str) // g_newellaw06_OrderSorts.k42 n a0 p = some r}) (fun p => ofL [(0, .d (.tl Str 1 encStr emp a0)), (5, .h 0 0 0 p.1.length)]) (fun p => [.row 0 9 1 (p.1.map encStr)]) (WP_block (WP_loop (α := {x : Nat × (List Str) × Int // g_newellaw06_OrderSorts.l42 n a0 a1 x.1 x.2.1 x.2.2 = some r}) (fun x => ofL [(0, .d (.tl Str 1 encStr emp a0)), (1, .d (.tl Int 1 encInt (0 : Int) a1)), (5, .h 0 0 0 x.1.2.1.length), (6, .int x.1.2.2)]) (fun x => [.row 0 9 1 (x.1.2.1.map encStr)]) (fun x => x.1.1) ⟨(n, a0, 0), h⟩ (Sub.ofL _ _ (Nat.zero_le _) ⟨rfl, rfl, rfl, rfl, rfl, rfl, rfl, rfl, trivial⟩ rfl rfl) ?_)) ?_
    rotate_left
    · rintro ⟨l43, h⟩ env st hs
      replace h : g_newellaw06_OrderSorts.k42 n a0 l43 = some r := h
      unfold g_newellaw06_OrderSorts.k42 at h
      refine WP_sub hs ?_
      try dsimp only
      refine WP_seq ?_
      refine vcc_sound _ _ _ tabOk (by exact rfl) ?_
      obtain ⟨y44, hy44, h⟩ := bind_some h
      repeat (first | refine Ob.mk (by first | rfl | omega | assumption | exact ⟨rfl, rfl, (List.length_map _).symm⟩ | exact ⟨rfl, rfl, by rw [List.length_map]; omega⟩) ?_ | refine Br.t ?_ | refine Br.f ?_)
      refine CallD.mk _ _ (g_order_Sort.ok n a0 y44 hy44) (by exact ⟨DLe.refl _, trivial⟩) ?_
      repeat (first | refine Ob.mk (by first | rfl | omega | assumption | exact ⟨rfl, rfl, (List.length_map _).symm⟩ | exact ⟨rfl, rfl, by rw [List.length_map]; omega⟩) ?_ | refine Br.t ?_ | refine Br.f ?_)
      refine WP_seq ?_
      refine vcc_sound _ _ _ tabOk (by exact rfl) ?_
      obtain ⟨y45, hy45, h⟩ := bind_some h
      repeat (first | refine Ob.mk (by first | rfl | omega | assumption | exact ⟨rfl, rfl, (List.length_map _).symm⟩ | exact ⟨rfl, rfl, by rw [List.length_map]; omega⟩) ?_ | refine Br.t ?_ | refine Br.f ?_)
      refine CallE.lend ⟨⟨rfl, rfl, (List.length_map _).symm⟩, ⟨_, _, g_order_Greatest.ok n l43 y45 hy45, ⟨DLe.tl emp rfl, trivial⟩, rfl, ?_⟩⟩
      repeat (first | refine Ob.mk (by first | rfl | omega | assumption | exact ⟨rfl, rfl, (List.length_map _).symm⟩ | exact ⟨rfl, rfl, by rw [List.length_map]; omega⟩) ?_ | refine Br.t ?_ | refine Br.f ?_)
      refine WP_seq ?_
      refine WP_seq ?_
      refine WP_sub (Sub.shutT (s := 0) (k := 0) (n := l43.length) (e := 9) (sz := 1) 5 encStr emp l43 rfl rfl rfl) ?_
      refine vcc_sound _ _ _ tabOk (by exact rfl) ?_
      obtain ⟨y53, hy53, h⟩ := bind_some h
      repeat (first | refine Ob.mk (by first | rfl | omega | assumption | exact ⟨rfl, rfl, (List.length_map _).symm⟩ | exact ⟨rfl, rfl, by rw [List.length_map]; omega⟩) ?_ | refine Br.t ?_ | refine Br.f ?_)
      refine CallD.mk _ _ (g_newellaw06_awake.ok n y53 hy53) (by exact trivial) ?_
      repeat (first | refine Ob.mk (by first | rfl | omega | assumption | exact ⟨rfl, rfl, (List.length_map _).symm⟩ | exact ⟨rfl, rfl, by rw [List.length_map]; omega⟩) ?_ | refine Br.t ?_ | refine Br.f ?_)
      refine Br.mk (fun b54 => ?_) (fun b54 => ?_)
      · replace h := bif_t b54 h
        repeat (first | refine Ob.mk (by first | rfl | omega | assumption | exact ⟨rfl, rfl, (List.length_map _).symm⟩ | exact ⟨rfl, rfl, by rw [List.length_map]; omega⟩) ?_ | refine Br.t ?_ | refine Br.f ?_)
        refine vcc_sound _ _ _ tabOk (by exact rfl) ?_
        repeat (first | refine Ob.mk (by first | rfl | omega | assumption | exact ⟨rfl, rfl, (List.length_map _).symm⟩ | exact ⟨rfl, rfl, by rw [List.length_map]; omega⟩) ?_ | refine Br.t ?_ | refine Br.f ?_)
        refine WP_seq ?_
        refine vcc_sound _ _ _ tabOk (by exact rfl) ?_
        repeat (first | refine Ob.mk (by first | rfl | omega | assumption | exact ⟨rfl, rfl, (List.length_map _).symm⟩ | exact ⟨rfl, rfl, by rw [List.length_map]; omega⟩) ?_ | refine Br.t ?_ | refine Br.f ?_)
        refine WP_ret ?_
        obtain rfl := Option.some.inj h
        repeat (first | refine Ob.mk (by first | rfl | omega | assumption | exact ⟨rfl, rfl, (List.length_map _).symm⟩ | exact ⟨rfl, rfl, by rw [List.length_map]; omega⟩) ?_ | refine Br.t ?_ | refine Br.f ?_)
        exact ⟨DLe.refl _, trivial⟩
      · replace h := bif_f b54 h
        repeat (first | refine Ob.mk (by first | rfl | omega | assumption | exact ⟨rfl, rfl, (List.length_map _).symm⟩ | exact ⟨rfl, rfl, by rw [List.length_map]; omega⟩) ?_ | refine Br.t ?_ | refine Br.f ?_)
        refine Br.mk (fun b55 => ?_) (fun b55 => ?_)
        · replace h := bif_t b55 h
          repeat (first | refine Ob.mk (by first | rfl | omega | assumption | exact ⟨rfl, rfl, (List.length_map _).symm⟩ | exact ⟨rfl, rfl, by rw [List.length_map]; omega⟩) ?_ | refine Br.t ?_ | refine Br.f ?_)
          refine vcc_sound _ _ _ tabOk (by exact rfl) ?_
          repeat (first | refine Ob.mk (by first | rfl | omega | assumption | exact ⟨rfl, rfl, (List.length_map _).symm⟩ | exact ⟨rfl, rfl, by rw [List.length_map]; omega⟩) ?_ | refine Br.t ?_ | refine Br.f ?_)
          refine WP_seq ?_
          refine vcc_sound _ _ _ tabOk (by exact rfl) ?_
          repeat (first | refine Ob.mk (by first | rfl | omega | assumption | exact ⟨rfl, rfl, (List.length_map _).symm⟩ | exact ⟨rfl, rfl, by rw [List.length_map]; omega⟩) ?_ | refine Br.t ?_ | refine Br.f ?_)
          refine WP_ret ?_
          obtain rfl := Option.some.inj h
          repeat (first | refine Ob.mk (by first | rfl | omega | assumption | exact ⟨rfl, rfl, (List.length_map _).symm⟩ | exact ⟨rfl, rfl, by rw [List.length_map]; omega⟩) ?_ | refine Br.t ?_ | refine Br.f ?_)
          exact ⟨DLe.refl _, trivial⟩
        · replace h := bif_f b55 h
          obtain ⟨y56, hy56, h⟩ := bind_some h
          repeat (first | refine Ob.mk (by first | rfl | omega | assumption | exact ⟨rfl, rfl, (List.length_map _).symm⟩ | exact ⟨rfl, rfl, by rw [List.length_map]; omega⟩) ?_ | refine Br.t ?_ | refine Br.f ?_)
          refine CallD.mk _ _ (g_order_Sort.ok n l43 y56 hy56) (by exact ⟨DLe.refl _, trivial⟩) ?_
          obtain ⟨y57, hy57, h⟩ := bind_some h
          repeat (first | refine Ob.mk (by first | rfl | omega | assumption | exact ⟨rfl, rfl, (List.length_map _).symm⟩ | exact ⟨rfl, rfl, by rw [List.length_map]; omega⟩) ?_ | refine Br.t ?_ | refine Br.f ?_)
          refine CallD.mk _ _ (g_newelhelp_Plain_string.ok n y56 y44 y57 hy57) (by exact ⟨DLe.refl _, DLe.refl _, trivial⟩) ?_
          repeat (first | refine Ob.mk (by first | rfl | omega | assumption | exact ⟨rfl, rfl, (List.length_map _).symm⟩ | exact ⟨rfl, rfl, by rw [List.length_map]; omega⟩) ?_ | refine Br.t ?_ | refine Br.f ?_)
          refine Br.mk (fun b58 => ?_) (fun b58 => ?_)
          · replace h := bif_t b58 h
            repeat (first | refine Ob.mk (by first | rfl | omega | assumption | exact ⟨rfl, rfl, (List.length_map _).symm⟩ | exact ⟨rfl, rfl, by rw [List.length_map]; omega⟩) ?_ | refine Br.t ?_ | refine Br.f ?_)
            refine vcc_sound _ _ _ tabOk (by exact rfl) ?_
            repeat (first | refine Ob.mk (by first | rfl | omega | assumption | exact ⟨rfl, rfl, (List.length_map _).symm⟩ | exact ⟨rfl, rfl, by rw [List.length_map]; omega⟩) ?_ | refine Br.t ?_ | refine Br.f ?_)
            refine WP_seq ?_
            refine vcc_sound _ _ _ tabOk (by exact rfl) ?_
            repeat (first | refine Ob.mk (by first | rfl | omega | assumption | exact ⟨rfl, rfl, (List.length_map _).symm⟩ | exact ⟨rfl, rfl, by rw [List.length_map]; omega⟩) ?_ | refine Br.t ?_ | refine Br.f ?_)
            refine WP_ret ?_
            obtain rfl := Option.some.inj h
            repeat (first | refine Ob.mk (by first | rfl | omega | assumption | exact ⟨rfl, rfl, (List.length_map _).symm⟩ | exact ⟨rfl, rfl, by rw [List.length_map]; omega⟩) ?_ | refine Br.t ?_ | refine Br.f ?_)
            exact ⟨DLe.refl _, trivial⟩
          · replace h := bif_f b58 h
            repeat (first | refine Ob.mk (by first | rfl | omega | assumption | exact ⟨rfl, rfl, (List.length_map _).symm⟩ | exact ⟨rfl, rfl, by rw [List.length_map]; omega⟩) ?_ | refine Br.t ?_ | refine Br.f ?_)
            refine vcc_sound _ _ _ tabOk (by exact rfl) ?_
            repeat (first | refine Ob.mk (by first | rfl | omega | assumption | exact ⟨rfl, rfl, (List.length_map _).symm⟩ | exact ⟨rfl, rfl, by rw [List.length_map]; omega⟩) ?_ | refine Br.t ?_ | refine Br.f ?_)
            refine Br.mk (fun b59 => ?_) (fun b59 => ?_)
            · replace h := bif_t b59 h
              refine WP_seq ?_
              refine vcc_sound _ _ _ tabOk (by exact rfl) ?_
              repeat (first | refine Ob.mk (by first | rfl | omega | assumption | exact ⟨rfl, rfl, (List.length_map _).symm⟩ | exact ⟨rfl, rfl, by rw [List.length_map]; omega⟩) ?_ | refine Br.t ?_ | refine Br.f ?_)
              refine WP_ret ?_
              obtain rfl := Option.some.inj h
              repeat (first | refine Ob.mk (by first | rfl | omega | assumption | exact ⟨rfl, rfl, (List.length_map _).symm⟩ | exact ⟨rfl, rfl, by rw [List.length_map]; omega⟩) ?_ | refine Br.t ?_ | refine Br.f ?_)
              exact ⟨DLe.refl _, trivial⟩
            · replace h := bif_f b59 h
              refine WP_skip ?_
              refine WP_seq ?_
              refine WP_seq ?_
              refine vcc_sound _ _ _ tabOk (by exact rfl) ?_
              repeat (first | refine Ob.mk (by first | rfl | omega | assumption | exact ⟨rfl, rfl, (List.length_map _).symm⟩ | exact ⟨rfl, rfl, by rw [List.length_map]; omega⟩) ?_ | refine Br.t ?_ | refine Br.f ?_)
              refine WP_cutQ (α := {p : Unit // g_newellaw06_OrderSorts.k79 n y44 y45 = some r}) (fun p => ofL [(8, .d (.tl Str 1 encStr emp y44)), (9, .str y45.1)]) (fun p => []) (WP_block (WP_loop (α := {x : Nat × Int // g_newellaw06_OrderSorts.l79 n y44 y45 x.1 x.2 = some r}) (fun x => ofL [(8, .d (.tl Str 1 encStr emp y44)), (9, .str y45.1), (11, .int x.1.2)]) (fun x => []) (fun x => x.1.1) ⟨(n, 1), h⟩ (Sub.ofL _ _ (Nat.zero_le _) ⟨rfl, rfl, rfl, rfl, rfl, rfl, trivial⟩ rfl rfl) ?_)) ?_
              rotate_left
              · rintro ⟨⟨⟩, h⟩ env st hs
                replace h : g_newellaw06_OrderSorts.k79 n y44 y45 = some r := h
                unfold g_newellaw06_OrderSorts.k79 at h
                refine WP_sub hs ?_
                try dsimp only
                refine WP_seq ?_
                refine vcc_sound _ _ _ tabOk (by exact rfl) ?_
                repeat (first | refine Ob.mk (by first | rfl | omega | assumption | exact ⟨rfl, rfl, (List.length_map _).symm⟩ | exact ⟨rfl, rfl, by rw [List.length_map]; omega⟩) ?_ | refine Br.t ?_ | refine Br.f ?_)
                refine Br.mk (fun b80 => ?_) (fun b80 => ?_)
                · replace h := bif_t b80 h
                  repeat (first | refine Ob.mk (by first | rfl | omega | assumption | exact ⟨rfl, rfl, (List.length_map _).symm⟩ | exact ⟨rfl, rfl, by rw [List.length_map]; omega⟩) ?_ | refine Br.t ?_ | refine Br.f ?_)
                  refine WP_ret ?_
                  obtain rfl := Option.some.inj h
                  repeat (first | refine Ob.mk (by first | rfl | omega | assumption | exact ⟨rfl, rfl, (List.length_map _).symm⟩ | exact ⟨rfl, rfl, by rw [List.length_map]; omega⟩) ?_ | refine Br.t ?_ | refine Br.f ?_)
                  exact ⟨DLe.refl _, trivial⟩
                · replace h := bif_f b80 h
                  obtain ⟨c81, h⟩ := chk_some h
                  obtain ⟨c82, h⟩ := chk_some h
                  repeat (first | refine Ob.mk (by first | rfl | omega | assumption | exact ⟨rfl, rfl, (List.length_map _).symm⟩ | exact ⟨rfl, rfl, by rw [List.length_map]; omega⟩) ?_ | refine Br.t ?_ | refine Br.f ?_)
                  refine WP_ret ?_
                  obtain rfl := Option.some.inj h
                  repeat (first | refine Ob.mk (by first | rfl | omega | assumption | exact ⟨rfl, rfl, (List.length_map _).symm⟩ | exact ⟨rfl, rfl, by rw [List.length_map]; omega⟩) ?_ | refine Br.t ?_ | refine Br.f ?_)
                  exact ⟨DLe.refl _, trivial⟩
              rintro ⟨⟨m79, x83⟩, h⟩
              cases m79 with
              | zero => exact nomatch (show (none : Option (Bool)) = some r from h)
              | succ m79 =>
                replace h : g_newellaw06_OrderSorts.l79b n y44 y45 (g_newellaw06_OrderSorts.l79 n y44 y45 m79) x83 = some r := h
                unfold g_newellaw06_OrderSorts.l79b at h
                try dsimp only
                refine WP_seq ?_
                refine WP_seq ?_
                refine vcc_sound _ _ _ tabOk (by exact rfl) ?_
                repeat (first | refine Ob.mk (by first | rfl | omega | assumption | exact ⟨rfl, rfl, (List.length_map _).symm⟩ | exact ⟨rfl, rfl, by rw [List.length_map]; omega⟩) ?_ | refine Br.t ?_ | refine Br.f ?_)
                refine vcc_sound _ _ _ tabOk (by exact rfl) ?_
                repeat (first | refine Ob.mk (by first | rfl | omega | assumption | exact ⟨rfl, rfl, (List.length_map _).symm⟩ | exact ⟨rfl, rfl, by rw [List.length_map]; omega⟩) ?_ | refine Br.t ?_ | refine Br.f ?_)
                refine Br.mk (fun b85 => ?_) (fun b85 => ?_)
                · replace h := bif_t b85 h
                  refine WP_skip ?_
                  refine WP_seq ?_
                  refine WP_block ?_
                  refine WP_seq ?_
                  refine cdraw1 tabOk (by kernel_rfl) ?_
                  obtain ⟨c86, h⟩ := chk_some h
                  obtain ⟨c87, h⟩ := chk_some h
                  obtain ⟨c88, h⟩ := chk_some h
                  obtain ⟨y89, hy89, h⟩ := bind_some h
                  repeat (first | refine Ob.mk (by first | rfl | omega | assumption | exact ⟨rfl, rfl, (List.length_map _).symm⟩ | exact ⟨rfl, rfl, by rw [List.length_map]; omega⟩) ?_ | refine Br.t ?_ | refine Br.f ?_)
                  refine CallD.mk _ _ (g_order_Compare.ok n (y44.getD ((x83 - 1).toNat) emp) (y44.getD x83.toNat emp) y89 hy89) (by exact ⟨DLe.refl _, DLe.refl _, trivial⟩) ?_
                  repeat (first | refine Ob.mk (by first | rfl | omega | assumption | exact ⟨rfl, rfl, (List.length_map _).symm⟩ | exact ⟨rfl, rfl, by rw [List.length_map]; omega⟩) ?_ | refine Br.t ?_ | refine Br.f ?_)
                  refine vcc_sound _ _ _ tabOk (by exact rfl) ?_
                  repeat (first | refine Ob.mk (by first | rfl | omega | assumption | exact ⟨rfl, rfl, (List.length_map _).symm⟩ | exact ⟨rfl, rfl, by rw [List.length_map]; omega⟩) ?_ | refine Br.t ?_ | refine Br.f ?_)
                  refine Br.mk (fun b90 => ?_) (fun b90 => ?_)
                  · replace h := bif_t b90 h
                    refine WP_seq ?_
                    refine vcc_sound _ _ _ tabOk (by exact rfl) ?_
                    repeat (first | refine Ob.mk (by first | rfl | omega | assumption | exact ⟨rfl, rfl, (List.length_map _).symm⟩ | exact ⟨rfl, rfl, by rw [List.length_map]; omega⟩) ?_ | refine Br.t ?_ | refine Br.f ?_)
                    refine WP_ret ?_
                    obtain rfl := Option.some.inj h
                    repeat (first | refine Ob.mk (by first | rfl | omega | assumption | exact ⟨rfl, rfl, (List.length_map _).symm⟩ | exact ⟨rfl, rfl, by rw [List.length_map]; omega⟩) ?_ | refine Br.t ?_ | refine Br.f ?_)
                    exact ⟨DLe.refl _, trivial⟩
                  · replace h := bif_f b90 h
                    refine WP_skip ?_
                    refine vcc_sound _ _ _ tabOk (by exact rfl) ?_
                    obtain ⟨c91, h⟩ := chk_some h
                    repeat (first | refine Ob.mk (by first | rfl | omega | assumption | exact ⟨rfl, rfl, (List.length_map _).symm⟩ | exact ⟨rfl, rfl, by rw [List.length_map]; omega⟩) ?_ | refine Br.t ?_ | refine Br.f ?_)
                    repeat (first | refine Ob.mk (by first | rfl | omega | assumption | exact ⟨rfl, rfl, (List.length_map _).symm⟩ | exact ⟨rfl, rfl, by rw [List.length_map]; omega⟩) ?_ | refine Br.t ?_ | refine Br.f ?_)
                    exact ⟨⟨(m79, (x83 + 1)), h⟩, Nat.lt_succ_self _, Sub.ofL _ _ (Nat.zero_le _) ⟨rfl, rfl, rfl, rfl, rfl, rfl, trivial⟩ rfl rfl⟩
                · replace h := bif_f b85 h
                  refine WP_exit ?_
                  repeat (first | refine Ob.mk (by first | rfl | omega | assumption | exact ⟨rfl, rfl, (List.length_map _).symm⟩ | exact ⟨rfl, rfl, by rw [List.length_map]; omega⟩) ?_ | refine Br.t ?_ | refine Br.f ?_)
                  exact ⟨⟨(), h⟩, Sub.ofL _ _ (Nat.zero_le _) ⟨rfl, rfl, rfl, rfl, trivial⟩ rfl rfl⟩
    rintro ⟨⟨m42, l92, x93⟩, h⟩
    cases m42 with
    | zero => exact nomatch (show (none : Option (Bool)) = some r from h)
    | succ m42 =>
      replace h : g_newellaw06_OrderSorts.l42b n a0 a1 (g_newellaw06_OrderSorts.l42 n a0 a1 m42) l92 x93 = some r := h
      unfold g_newellaw06_OrderSorts.l42b at h
      try dsimp only
      refine WP_seq ?_
      refine WP_seq ?_
      refine vcc_sound _ _ _ tabOk (by exact rfl) ?_
      repeat (first | refine Ob.mk (by first | rfl | omega | assumption | exact ⟨rfl, rfl, (List.length_map _).symm⟩ | exact ⟨rfl, rfl, by rw [List.length_map]; omega⟩) ?_ | refine Br.t ?_ | refine Br.f ?_)
      refine Br.mk (fun b97 => ?_) (fun b97 => ?_)
      · replace h := bif_t b97 h
        repeat (first | refine Ob.mk (by first | rfl | omega | assumption | exact ⟨rfl, rfl, (List.length_map _).symm⟩ | exact ⟨rfl, rfl, by rw [List.length_map]; omega⟩) ?_ | refine Br.t ?_ | refine Br.f ?_)
        refine Br.mk (fun b98 => ?_) (fun b98 => ?_)
        · replace h := bif_t b98 h
          repeat (first | refine Ob.mk (by first | rfl | omega | assumption | exact ⟨rfl, rfl, (List.length_map _).symm⟩ | exact ⟨rfl, rfl, by rw [List.length_map]; omega⟩) ?_ | refine Br.t ?_ | refine Br.f ?_)
          refine vcc_sound _ _ _ tabOk (by exact rfl) ?_
          repeat (first | refine Ob.mk (by first | rfl | omega | assumption | exact ⟨rfl, rfl, (List.length_map _).symm⟩ | exact ⟨rfl, rfl, by rw [List.length_map]; omega⟩) ?_ | refine Br.t ?_ | refine Br.f ?_)
          refine Br.mk (fun b99 => ?_) (fun b99 => ?_)
          · replace h := bif_t b99 h
            refine WP_skip ?_
            refine WP_seq ?_
            refine WP_block ?_
            refine WP_seq ?_
            refine vcc_sound _ _ _ tabOk (by exact rfl) ?_
            obtain ⟨c100, h⟩ := chk_some h
            obtain ⟨c101, h⟩ := chk_some h
            repeat (first | refine Ob.mk (by first | rfl | omega | assumption | exact ⟨rfl, rfl, (List.length_map _).symm⟩ | exact ⟨rfl, rfl, by rw [List.length_map]; omega⟩) ?_ | refine Br.t ?_ | refine Br.f ?_)
            refine cdraw4 tabOk 19 [0, 1, 2, 5, 6, 7, 8, 11, 12, 13] (by kernel_rfl) ?_
            obtain ⟨c102, h⟩ := chk_some h
            obtain ⟨c103, h⟩ := chk_some h
            repeat (first | refine Ob.mk (by first | rfl | omega | assumption | exact ⟨rfl, rfl, (List.length_map _).symm⟩ | exact ⟨rfl, rfl, by rw [List.length_map]; omega⟩) ?_ | refine Br.t ?_ | refine Br.f ?_)
            refine RowAt.ty emp (by first | omega | (simp only [List.length_set]; omega)) ?_
            obtain ⟨c104, h⟩ := chk_some h
            obtain ⟨c105, h⟩ := chk_some h
            repeat (first | refine Ob.mk (by first | rfl | omega | assumption | exact ⟨rfl, rfl, (List.length_map _).symm⟩ | exact ⟨rfl, rfl, by rw [List.length_map]; omega⟩) ?_ | refine Br.t ?_ | refine Br.f ?_)
            refine RowAt.ty emp (by first | omega | (simp only [List.length_set]; omega)) ?_
            obtain ⟨c106, h⟩ := chk_some h
            repeat (first | refine Ob.mk (by first | rfl | omega | assumption | exact ⟨rfl, rfl, (List.length_map _).symm⟩ | exact ⟨rfl, rfl, by rw [List.length_map]; omega⟩) ?_ | refine Br.t ?_ | refine Br.f ?_)
            refine RowSet.ty encStr l92 emp (l92.getD ((IntKind.wrap .i64 ((IntKind.wrap .u64 (a1.getD x93.toNat (0 : Int))).tmod (IntKind.wrap .u64 (l92.length : Int)))).toNat) emp) rfl (by first | omega | (simp only [List.length_set]; omega)) rfl ?_
            obtain ⟨c107, h⟩ := chk_some h
            repeat (first | refine Ob.mk (by first | rfl | omega | assumption | exact ⟨rfl, rfl, (List.length_map _).symm⟩ | exact ⟨rfl, rfl, by rw [List.length_map]; omega⟩) ?_ | refine Br.t ?_ | refine Br.f ?_)
            refine RowSet.ty encStr (l92.set ((x93.tmod (l92.length : Int)).toNat) (l92.getD ((IntKind.wrap .i64 ((IntKind.wrap .u64 (a1.getD x93.toNat (0 : Int))).tmod (IntKind.wrap .u64 (l92.length : Int)))).toNat) emp)) emp (l92.getD ((x93.tmod (l92.length : Int)).toNat) emp) rfl (by first | omega | (simp only [List.length_set]; omega)) rfl ?_
            repeat (first | refine Ob.mk (by first | rfl | omega | assumption | exact ⟨rfl, rfl, (List.length_map _).symm⟩ | exact ⟨rfl, rfl, by rw [List.length_map]; omega⟩) ?_ | refine Br.t ?_ | refine Br.f ?_)
            refine vcc_sound _ _ _ tabOk (by exact rfl) ?_
            obtain ⟨c108, h⟩ := chk_some h
            repeat (first | refine Ob.mk (by first | rfl | omega | assumption | exact ⟨rfl, rfl, (List.length_map _).symm⟩ | exact ⟨rfl, rfl, by rw [List.length_map]; omega⟩) ?_ | refine Br.t ?_ | refine Br.f ?_)
            repeat (first | refine Ob.mk (by first | rfl | omega | assumption | exact ⟨rfl, rfl, (List.length_map _).symm⟩ | exact ⟨rfl, rfl, by rw [List.length_map]; omega⟩) ?_ | refine Br.t ?_ | refine Br.f ?_)
            exact ⟨⟨(m42, ((l92.set ((x93.tmod (l92.length : Int)).toNat) (l92.getD ((IntKind.wrap .i64 ((IntKind.wrap .u64 (a1.getD x93.toNat (0 : Int))).tmod (IntKind.wrap .u64 (l92.length : Int)))).toNat) emp)).set ((IntKind.wrap .i64 ((IntKind.wrap .u64 (a1.getD x93.toNat (0 : Int))).tmod (IntKind.wrap .u64 (l92.length : Int)))).toNat) (l92.getD ((x93.tmod (l92.length : Int)).toNat) emp)), (x93 + 1)), h⟩, Nat.lt_succ_self _, Sub.ofL _ _ (Nat.zero_le _) ⟨rfl, rfl, rfl, rfl, congrArg (AV.h _ _ 0) (by first | omega | simp), rfl, rfl, rfl, trivial⟩ rfl rfl⟩
          · replace h := bif_f b99 h
            refine WP_exit ?_
            repeat (first | refine Ob.mk (by first | rfl | omega | assumption | exact ⟨rfl, rfl, (List.length_map _).symm⟩ | exact ⟨rfl, rfl, by rw [List.length_map]; omega⟩) ?_ | refine Br.t ?_ | refine Br.f ?_)
            exact ⟨⟨l92, h⟩, Sub.ofL _ _ (Nat.zero_le _) ⟨rfl, rfl, rfl, rfl, trivial⟩ rfl rfl⟩
        · replace h := bif_f b98 h
          repeat (first | refine Ob.mk (by first | rfl | omega | assumption | exact ⟨rfl, rfl, (List.length_map _).symm⟩ | exact ⟨rfl, rfl, by rw [List.length_map]; omega⟩) ?_ | refine Br.t ?_ | refine Br.f ?_)
          refine vcc_sound _ _ _ tabOk (by exact rfl) ?_
          repeat (first | refine Ob.mk (by first | rfl | omega | assumption | exact ⟨rfl, rfl, (List.length_map _).symm⟩ | exact ⟨rfl, rfl, by rw [List.length_map]; omega⟩) ?_ | refine Br.t ?_ | refine Br.f ?_)
          refine WP_exit ?_
          repeat (first | refine Ob.mk (by first | rfl | omega | assumption | exact ⟨rfl, rfl, (List.length_map _).symm⟩ | exact ⟨rfl, rfl, by rw [List.length_map]; omega⟩) ?_ | refine Br.t ?_ | refine Br.f ?_)
          exact ⟨⟨l92, h⟩, Sub.ofL _ _ (Nat.zero_le _) ⟨rfl, rfl, rfl, rfl, trivial⟩ rfl rfl⟩
      · replace h := bif_f b97 h
        repeat (first | refine Ob.mk (by first | rfl | omega | assumption | exact ⟨rfl, rfl, (List.length_map _).symm⟩ | exact ⟨rfl, rfl, by rw [List.length_map]; omega⟩) ?_ | refine Br.t ?_ | refine Br.f ?_)
        refine vcc_sound _ _ _ tabOk (by exact rfl) ?_
        repeat (first | refine Ob.mk (by first | rfl | omega | assumption | exact ⟨rfl, rfl, (List.length_map _).symm⟩ | exact ⟨rfl, rfl, by rw [List.length_map]; omega⟩) ?_ | refine Br.t ?_ | refine Br.f ?_)
        refine WP_exit ?_
        repeat (first | refine Ob.mk (by first | rfl | omega | assumption | exact ⟨rfl, rfl, (List.length_map _).symm⟩ | exact ⟨rfl, rfl, by rw [List.length_map]; omega⟩) ?_ | refine Br.t ?_ | refine Br.f ?_)
        exact ⟨⟨l92, h⟩, Sub.ofL _ _ (Nat.zero_le _) ⟨rfl, rfl, rfl, rfl, trivial⟩ rfl rfl⟩

end Go.Proofs.Nw.K
end
section
/- QL7: plain law OrderSorts. -/
open Go Go.RowKit Go.Proofs Go.Sort Go.Shelf
set_option linter.unusedVariables false
set_option linter.unusedSimpArgs false
namespace Go.Proofs.Nw.K

theorem whole_eq' (n : Nat) (hn : 3 ≤ n) (a b : Str) (ha : a.size ≤ 4194303) (hb : b.size ≤ 4194303) : g_order_whole n a b = some (wholeC a b) := by
  obtain ⟨k, rfl⟩ : ∃ k, n = k + 3 := ⟨n - 3, by omega⟩
  exact g_order_whole_eq k a b ha hb
theorem awake_eq' (n : Nat) (hn : 3 ≤ n) : g_newellaw06_awake n = some true := by
  obtain ⟨k, rfl⟩ : ∃ k, n = k + 3 := ⟨n - 3, by omega⟩
  exact awake_eq k

/-! ### the greatest -/
theorem max_loop (n : Nat) (hn : 3 ≤ n) (m : List Str) (hm : m.length ≤ 20) (hs : ∀ x ∈ m, x.size ≤ 100) : ∀ (f i : Nat) (x : Str), i ≤ m.length → m.length < i + f → x ∈ m → (∀ j (h : j < m.length), j < i → wholeC m[j] x ≤ 0) →
    ∃ g, g_slices_MaxFunc_string_string__order_whole.l26 n m f x (i : Int) = some g ∧ g ∈ m ∧ ∀ y ∈ m, wholeC y g ≤ 0
  | 0, i, x, h1, h2, _, _ => by omega
  | f + 1, i, x, h1, h2, hx, ha => by
    unfold g_slices_MaxFunc_string_string__order_whole.l26 g_slices_MaxFunc_string_string__order_whole.l26b
    rw [decN]
    by_cases hi : i < m.length
    · have hg : m.getD (i : Int).toNat emp = m[i] := by simp [hi]
      have hmi : m[i] ∈ m := List.getElem_mem hi
      have s1 := hs _ hmi
      have s2 := hs _ hx
      rw [decide_eq_true hi, cond_true, chk_at hi, hg, whole_eq' n hn _ _ (by omega) (by omega), Option.bind_some]
      have a1 := totC.anti x m[i]
      by_cases hc : wholeC m[i] x > 0
      · rw [decide_eq_true hc, cond_true, chk_at hi, chk_t (in64_nat (by omega)), show (i : Int) + 1 = ((i + 1 : Nat) : Int) by omega]
        refine max_loop n hn m hm hs f (i + 1) m[i] hi (by omega) hmi (fun j h hj => ?_)
        rcases Nat.lt_succ_iff_lt_or_eq.1 hj with hj | hj
        · exact totC.trans _ x _ (ha j h hj) (by omega)
        · subst hj
          rw [totC.refl]; omega
      · rw [decide_eq_false hc, cond_false, chk_t (in64_nat (by omega)), show (i : Int) + 1 = ((i + 1 : Nat) : Int) by omega]
        refine max_loop n hn m hm hs f (i + 1) x hi (by omega) hx (fun j h hj => ?_)
        rcases Nat.lt_succ_iff_lt_or_eq.1 hj with hj | hj
        · exact ha j h hj
        · subst hj; omega
    · rw [decide_eq_false hi, cond_false]
      refine ⟨x, rfl, hx, fun y hy => ?_⟩
      obtain ⟨j, hj, rfl⟩ := List.getElem_of_mem hy
      exact ha j hj (by omega)
theorem greatest_eq (n : Nat) (hn : 30 ≤ n) (m : List Str) (hm : m.length ≤ 20) (hs : ∀ x ∈ m, x.size ≤ 100) : (m = [] ∧ g_order_Greatest n m = some (emp, false)) ∨ ∃ g, g_order_Greatest n m = some (g, true) ∧ g ∈ m ∧ ∀ y ∈ m, wholeC y g ≤ 0 := by
  cases m with
  | nil => exact .inl ⟨rfl, rfl⟩
  | cons x r =>
    refine .inr ?_
    obtain ⟨g, h1, h2, h3⟩ := max_loop n (by omega) (x :: r) hm hs n 1 x (by simp) (by omega) (by simp) (fun j h hj => by
      obtain rfl : j = 0 := by omega
      show wholeC x x ≤ 0
      rw [totC.refl]; omega)
    refine ⟨g, ?_, h2, h3⟩
    unfold g_order_Greatest g_slices_MaxFunc_string_string__order_whole
    have hpos : 0 < (x :: r).length := by simp
    have e1 : (((x :: r).length : Int) == 0) = false := beq_eq_false_iff_ne.2 (by omega)
    have e2 : decide (((x :: r).length : Int) < 1) = false := decide_eq_false (by omega)
    rw [e1, cond_false, e2, cond_false, chk_t ⟨by omega, by omega⟩]
    have e3 : (x :: r).getD 0 emp = x := rfl
    rw [e3, show (1 : Int) = ((1 : Nat) : Int) from rfl, h1]
    rfl

/-! ### sorted -/
theorem sortV_perm (l : List Str) : (sortV l).Perm l := List.mergeSort_perm l _
theorem sortV_pair (l : List Str) : (sortV l).Pairwise fun a b => wholeC a b ≤ 0 := by
  have := List.pairwise_mergeSort (le := fun x y => !(ltOf wholeC) y x) (fun a b c h1 h2 => by
    simp only [ltOf, Bool.not_eq_true', decide_eq_false_iff_not] at *
    have a1 := totC.anti a b
    have a2 := totC.anti b c
    have a3 := totC.anti a c
    have := totC.trans a b c (by omega) (by omega)
    omega) (fun a b => by
    simp only [ltOf, Bool.or_eq_true, Bool.not_eq_true', decide_eq_false_iff_not]
    have := totC.anti a b
    omega) l
  refine List.Pairwise.imp (fun {a b} h => ?_) this
  simp only [ltOf, Bool.not_eq_true', decide_eq_false_iff_not] at h
  have := totC.anti a b
  omega
theorem sortV_same {a b : List Str} (h : a.Perm b) : sortV a = sortV b :=
  List.Perm.eq_of_pairwise (fun x y _ _ h1 h2 => wholeC_zero (by have := totC.anti x y; omega)) (sortV_pair a) (sortV_pair b) (((sortV_perm a).trans h).trans (sortV_perm b).symm)

theorem sorts_last (n : Nat) (l : List Str) (y : Str × Bool) (h : (l = [] ∧ y = (emp, false)) ∨ ∃ g, y = (g, true) ∧ g ∈ l ∧ ∀ x ∈ l, wholeC x g ≤ 0) (hl : l.length ≤ 20) : g_newellaw06_OrderSorts.k79 n (sortV l) y = some true := by
  unfold g_newellaw06_OrderSorts.k79
  have hlen := sortV_length l
  by_cases h0 : (sortV l).length = 0
  · rw [show (((sortV l).length : Int) == 0) = true by simp [h0], cond_true]
  · rw [show (((sortV l).length : Int) == 0) = false from beq_eq_false_iff_ne.2 (by omega), cond_false, chk_t (by unfold in64; omega), chk_t ⟨by omega, by omega⟩]
    rcases h with ⟨h, _⟩ | ⟨g, rfl, hg, hm⟩
    · subst h; exact absurd hlen h0
    · have hi : ((((sortV l).length : Int) - 1).toNat) < (sortV l).length := by omega
      have e : (sortV l).getD ((((sortV l).length : Int) - 1).toNat) emp = (sortV l)[(((sortV l).length : Int) - 1).toNat] := by rw [List.getD_eq_getElem?_getD, List.getElem?_eq_getElem hi]; rfl
      rw [e]
      have hgm : g ∈ sortV l := (sortV_perm l).mem_iff.2 hg
      obtain ⟨j, hj, hgj⟩ := List.getElem_of_mem hgm
      have ht : (sortV l)[(((sortV l).length : Int) - 1).toNat] ∈ l := (sortV_perm l).mem_iff.1 (List.getElem_mem hi)
      have h1 := hm _ ht
      have h2 : wholeC g (sortV l)[(((sortV l).length : Int) - 1).toNat] ≤ 0 := by
        by_cases hjj : j = (((sortV l).length : Int) - 1).toNat
        · subst hjj
          rw [hgj, totC.refl]; omega
        · rw [← hgj]
          exact List.pairwise_iff_getElem.1 (sortV_pair l) j _ hj hi (by omega)
      have h3 : g = (sortV l)[(((sortV l).length : Int) - 1).toNat] := wholeC_zero (by have := totC.anti g (sortV l)[(((sortV l).length : Int) - 1).toNat]; omega)
      rw [← h3]
      simp
theorem sorts_walk (n : Nat) (l : List Str) (y : Str × Bool) (hl : l.length ≤ 20) (hs : ∀ x ∈ l, x.size ≤ 100) (hy : g_newellaw06_OrderSorts.k79 n (sortV l) y = some true) : ∀ (f i : Nat), 1 ≤ i → l.length + 1 < i + f → i ≤ l.length + 1 → g_newellaw06_OrderSorts.l79 n (sortV l) y f (i : Int) = some true
  | 0, i, h0, h1, h2 => by omega
  | f + 1, i, h0, h1, h2 => by
    unfold g_newellaw06_OrderSorts.l79 g_newellaw06_OrderSorts.l79b
    have hlen := sortV_length l
    rw [decN]
    by_cases hi : i < (sortV l).length
    · have hi' : i - 1 < (sortV l).length := by omega
      have e1 : (sortV l).getD (i : Int).toNat emp = (sortV l)[i] := by simp [hi]
      have e2 : (sortV l).getD ((i : Int) - 1).toNat emp = (sortV l)[i - 1] := by
        have : ((i : Int) - 1).toNat = i - 1 := by omega
        rw [this, List.getD_eq_getElem?_getD, List.getElem?_eq_getElem hi']; rfl
      have s1 := hs _ ((sortV_perm l).mem_iff.1 (List.getElem_mem hi))
      have s2 := hs _ ((sortV_perm l).mem_iff.1 (List.getElem_mem hi'))
      have hp := List.pairwise_iff_getElem.1 (sortV_pair l) (i - 1) i hi' hi (by omega)
      have hc : ¬ cmpV (sortV l)[i - 1] (sortV l)[i] > 0 := by
        intro hc
        unfold wholeC at hp
        rw [if_pos (by omega)] at hp
        omega
      rw [decide_eq_true hi, cond_true, chk_t (by unfold in64; omega), chk_t ⟨by omega, by omega⟩, chk_at hi, e1, e2, g_order_Compare_eq _ _ _ (by omega) (by omega), Option.bind_some, decide_eq_false hc, cond_false, chk_t (in64_nat (by omega)), show (i : Int) + 1 = ((i + 1 : Nat) : Int) by omega]
      exact sorts_walk n l y hl hs hy f (i + 1) (by omega) (by omega) (by omega)
    · rw [decide_eq_false hi, cond_false]
      exact hy
theorem sorts_k42 (n : Nat) (hn : 40 ≤ n) (l m : List Str) (hp : m.Perm l) (hl : l.length ≤ 20) (hs : ∀ x ∈ l, x.size ≤ 100) : g_newellaw06_OrderSorts.k42 n l m = some true := by
  have hml : m.length = l.length := hp.length_eq
  have hms : ∀ x ∈ m, x.size ≤ 100 := fun x hx => hs x (hp.mem_iff.1 hx)
  have hlen := sortV_length l
  unfold g_newellaw06_OrderSorts.k42
  rw [sort_eq n l (by omega) (fun x hx => by have := hs x hx; omega), Option.bind_some]
  have key : ∀ y : Str × Bool, g_order_Greatest n m = some y → ((l = [] ∧ y = (emp, false)) ∨ ∃ g, y = (g, true) ∧ g ∈ l ∧ ∀ x ∈ l, wholeC x g ≤ 0) → (y.2 == decide ((l.length : Int) > 0)) = true →
      ((g_order_Greatest n m).bind fun y45 => (g_newellaw06_awake n).bind fun y53 =>
        bif (!y53) then some false else bif (((sortV l).length : Int) != (l.length : Int)) then some false else
          (g_order_Sort n m).bind fun y56 => (g_newelhelp_Plain_string n y56 (sortV l)).bind fun y57 =>
            bif (!y57) then some false else bif (!(y45.2 == decide ((l.length : Int) > 0))) then some false else g_newellaw06_OrderSorts.l79 n (sortV l) y45 n 1) = some true := by
    intro y hy hcase hb
    rw [hy, Option.bind_some, awake_eq' n (by omega), Option.bind_some, Bool.not_true, cond_false, show (((sortV l).length : Int) != (l.length : Int)) = false by simp [hlen], cond_false,
      sort_eq n m (by omega) (fun x hx => by have := hms x hx; omega), Option.bind_some, sortV_same hp, plain_eq n _ _ (by omega) (by omega), Option.bind_some, decide_eq_true rfl, Bool.not_true, cond_false, hb, Bool.not_true, cond_false]
    exact sorts_walk n l y hl hs (sorts_last n l y hcase hl) n 1 (by omega) (by omega) (by omega)
  rcases greatest_eq n (by omega) m (by omega) hms with ⟨hm, hg⟩ | ⟨g, hg, hgm, hgt⟩
  · have h0 : l = [] := by subst hm; exact List.eq_nil_of_length_eq_zero (by simpa using hml.symm)
    exact key _ hg (.inl ⟨h0, rfl⟩) (by subst h0; rfl)
  · have hpos : 0 < l.length := by rw [← hml]; exact List.length_pos_of_mem hgm
    exact key _ hg (.inr ⟨g, rfl, hp.mem_iff.1 hgm, fun x hx => hgt x (hp.mem_iff.2 hx)⟩) (by rw [decide_eq_true (by omega)]; rfl)

/-! ### the swaps -/
theorem mod_len (a : Int) (k : Nat) (hk : 0 < k) (hk2 : k ≤ 20) : IntKind.wrap .u64 (k : Int) = (k : Int) ∧ ∃ i : Nat, i < k ∧ IntKind.wrap .i64 ((IntKind.wrap .u64 a).tmod (k : Int)) = (i : Int) := by
  obtain ⟨i, hi, _, e⟩ := modN a k hk (by omega)
  refine ⟨?_, i, hi, e⟩
  simp only [IntKind.wrap, IntKind.bits, IntKind.signed]
  simp
  omega
theorem swap_perm (m : List Str) (i k : Nat) (hi : i < m.length) (hk : k < m.length) : ((m.set i (m.getD k emp)).set k (m.getD i emp)).Perm m := by
  have e1 : m.getD k emp = m[k] := by rw [List.getD_eq_getElem?_getD, List.getElem?_eq_getElem hk]; rfl
  have e2 : m.getD i emp = m[i] := by rw [List.getD_eq_getElem?_getD, List.getElem?_eq_getElem hi]; rfl
  rw [e1, e2]
  exact List.set_set_perm hi hk
theorem sorts_loop (n : Nat) (hn : 40 ≤ n) (l : List Str) (t : List Int) (hl : l.length ≤ 20) (hs : ∀ x ∈ l, x.size ≤ 100) : ∀ (f i : Nat) (m : List Str), i ≤ 30 → 30 < i + f → m.Perm l → g_newellaw06_OrderSorts.l42 n l t f m (i : Int) = some true
  | 0, i, m, h1, h2, _ => by omega
  | f + 1, i, m, h1, h2, hp => by
    have hk := sorts_k42 n hn l m hp hl hs
    unfold g_newellaw06_OrderSorts.l42 g_newellaw06_OrderSorts.l42b
    rw [decN]
    by_cases c1 : i < t.length
    · rw [decide_eq_true c1, cond_true]
      by_cases c2 : (i : Int) < 30
      · rw [decide_eq_true c2, cond_true]
        by_cases c3 : (m.length : Int) > 0
        · have hml := hp.length_eq
          have hpos : 0 < m.length := by omega
          obtain ⟨w1, k, hk1, w2⟩ := mod_len (t.getD (i : Int).toNat (0 : Int)) m.length hpos (by omega)
          have hq : (i : Int).tmod (m.length : Int) = ((i % m.length : Nat) : Int) := by rw [Int.tmod_eq_emod_of_nonneg (by omega)]; simp
          have hq2 : i % m.length < m.length := Nat.mod_lt _ hpos
          rw [decide_eq_true c3, cond_true, chk_at c1, w1, w2, hq, chk_t (by omega), chk_t (by omega), chk_at hk1, chk_t (by omega), chk_at hq2, chk_at hq2, chk_at hk1, chk_t (in64_nat (by omega)), Int.toNat_natCast, Int.toNat_natCast, show (i : Int) + 1 = ((i + 1 : Nat) : Int) by omega]
          exact sorts_loop n hn l t hl hs f (i + 1) _ (by omega) (by omega) ((swap_perm m _ _ hq2 hk1).trans hp)
        · rw [decide_eq_false c3, cond_false]; exact hk
      · rw [decide_eq_false c2, cond_false]; exact hk
    · rw [decide_eq_false c1, cond_false]; exact hk
theorem orderSorts_eq (l : List Str) (t : List Int) (hl : l.length ≤ 4194304) : g_newellaw06_OrderSorts (l.length + 40) l t = some true := by
  unfold g_newellaw06_OrderSorts
  rw [few_eq _ l (by omega) hl, Option.bind_some]
  cases hf : fewAt l 0 with
  | false =>
    rw [Bool.not_false, cond_true, awake_eq' _ (by omega)]
    rfl
  | true =>
    simp only [fewAt, List.drop_zero, Bool.and_eq_true, List.all_eq_true, decide_eq_true_eq] at hf
    rw [Bool.not_true, cond_false, chk_t (by unfold room; omega)]
    exact sorts_loop _ (by omega) l t hf.2 hf.1 (l.length + 40) 0 l (by omega) (by omega) (List.Perm.refl _)
theorem OrderSorts_impl (l : List Str) (t : List Int) (_ : l.length ≤ maxLen ∧ ∀ s ∈ l, s.size ≤ maxLen) (_ : t.length ≤ maxLen ∧ ∀ s ∈ t, isInt s) (h : (l.map (fun s => s.size + 1)).sum + 1 + ((t.map (fun _ => 1)).sum + 1) ≤ 1048576) :
    Impl Tryd.prog 9 [.one (.tl Str 1 encStr emp l), .one (.tl Int 1 encInt (0 : Int) t)] [.one (.sc (.bool true))] := by
  have e : ∀ l : List Str, l.length ≤ (l.map (fun s => s.size + 1)).sum := fun l => by induction l with
    | nil => exact Nat.le_refl _
    | cons x r ih => simp only [List.map_cons, List.sum_cons, List.length_cons]; omega
  have := e l
  exact g_newellaw06_OrderSorts.ok (l.length + 40) l t true (orderSorts_eq l t (by omega))
end Go.Proofs.Nw.K
end
