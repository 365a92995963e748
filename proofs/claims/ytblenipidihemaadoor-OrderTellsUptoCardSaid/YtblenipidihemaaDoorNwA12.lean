/- Bundle 12: NwQP5, NwQL7, NwQL8, NwK30. -/
import Derived.Test.YtblenipidihemaaDoorNwA11
import Derived.Laws.MakeOwn
section
/- Printed by a program of mine (pg.py): functions that may have no answer, and that the code comes to them. -/
open Go Go.RowKit Go.Proofs
set_option linter.unusedVariables false
set_option linter.unusedSimpArgs false
set_option maxHeartbeats 1000000
namespace Go.Proofs.Nw.K

/-! ### slices.MaxFunc[[]string,string] -/
def g_slices_MaxFunc_string_string__order_whole.k26 (n : Nat) (x27 : Str) : Option (Str) :=
  some x27
def g_slices_MaxFunc_string_string__order_whole.l26b (n : Nat) (a0 : (List Str)) (rec26 : Str → Int → Option (Str)) (x28 : Str) (x29 : Int) : Option (Str) :=
  bif (decide (x29 < (a0.length : Int))) then (
    chk (0 ≤ x29 ∧ x29 < (a0.length : Int)) <|
    (g_order_whole n (a0.getD x29.toNat emp) x28).bind fun y33 =>
    bif (decide (y33 > 0)) then (
      chk (0 ≤ x29 ∧ x29 < (a0.length : Int)) <|
      chk (in64 (x29 + 1)) <|
      rec26 (a0.getD x29.toNat emp) (x29 + 1)
    ) else (
      chk (in64 (x29 + 1)) <|
      rec26 x28 (x29 + 1)
    )
  ) else (
    g_slices_MaxFunc_string_string__order_whole.k26 n x28
  )
def g_slices_MaxFunc_string_string__order_whole.l26 (n : Nat) (a0 : (List Str)) : Nat → Str → Int → Option (Str)
  | 0, _, _ => none
  | m + 1, x28, x29 => g_slices_MaxFunc_string_string__order_whole.l26b n a0 (g_slices_MaxFunc_string_string__order_whole.l26 n a0 m) x28 x29
def g_slices_MaxFunc_string_string__order_whole (n : Nat) (a0 : (List Str)) : Option (Str) :=
  bif (decide ((a0.length : Int) < 1)) then (
    none
  ) else (
    chk (0 ≤ (0 : Int) ∧ 0 < (a0.length : Int)) <|
    g_slices_MaxFunc_string_string__order_whole.l26 n a0 n (a0.getD 0 emp) 1
  )
theorem g_slices_MaxFunc_string_string__order_whole.ok (n : Nat) (a0 : (List Str)) (r : Str) (h : g_slices_MaxFunc_string_string__order_whole n a0 = some r) : Impl Tryd.prog 37 [.one (.tl Str 1 encStr emp a0), .one (.sc (.func (.func 38) #[] #[]))] [.one (dstr r)] := by
  refine impl_wp tabOk Tryd.func37 rfl rfl (by kernel_rfl) ?_
  unfold g_slices_MaxFunc_string_string__order_whole at h
  refine WP_seq ?_
  refine vcc_sound _ _ _ tabOk (by exact rfl) ?_
  repeat (first | refine Ob.mk (by first | rfl | omega | assumption | exact ⟨rfl, rfl, (List.length_map _).symm⟩ | exact ⟨rfl, rfl, by rw [List.length_map]; omega⟩) ?_ | refine Br.t ?_ | refine Br.f ?_)
  refine WP_seq ?_
  refine WP_seq ?_
  refine vcc_sound _ _ _ tabOk (by exact rfl) ?_
  repeat (first | refine Ob.mk (by first | rfl | omega | assumption | exact ⟨rfl, rfl, (List.length_map _).symm⟩ | exact ⟨rfl, rfl, by rw [List.length_map]; omega⟩) ?_ | refine Br.t ?_ | refine Br.f ?_)
  refine vcc_sound _ _ _ tabOk (by exact rfl) ?_
  repeat (first | refine Ob.mk (by first | rfl | omega | assumption | exact ⟨rfl, rfl, (List.length_map _).symm⟩ | exact ⟨rfl, rfl, by rw [List.length_map]; omega⟩) ?_ | refine Br.t ?_ | refine Br.f ?_)
  refine Br.mk (fun b2 => ?_) (fun b2 => ?_)
  · replace h := bif_t b2 h
    refine vcc_sound _ _ _ tabOk (by exact rfl) ?_
    exact nomatch h
  · replace h := bif_f b2 h
    refine WP_skip ?_
    refine WP_seq ?_
    refine vcc_sound _ _ _ tabOk (by exact rfl) ?_
    obtain ⟨c3, h⟩ := chk_some h
    repeat (first | refine Ob.mk (by first | rfl | omega | assumption | exact ⟨rfl, rfl, (List.length_map _).symm⟩ | exact ⟨rfl, rfl, by rw [List.length_map]; omega⟩) ?_ | refine Br.t ?_ | refine Br.f ?_)
    refine WP_seq ?_
    refine WP_seq ?_
    refine vcc_sound _ _ _ tabOk (by exact rfl) ?_
    repeat (first | refine Ob.mk (by first | rfl | omega | assumption | exact ⟨rfl, rfl, (List.length_map _).symm⟩ | exact ⟨rfl, rfl, by rw [List.length_map]; omega⟩) ?_ | refine Br.t ?_ | refine Br.f ?_)
    refine WP_cutQ (α := {p : Str // g_slices_MaxFunc_string_string__order_whole.k26 n p = some r}) (fun p => ofL [(5, .str p.1)]) (fun p => []) (WP_block (WP_loop (α := {x : Nat × Str × Int // g_slices_MaxFunc_string_string__order_whole.l26 n a0 x.1 x.2.1 x.2.2 = some r}) (fun x => ofL [(0, .d (.tl Str 1 encStr emp a0)), (1, fnAV 38), (5, .str x.1.2.1), (6, .int x.1.2.2)]) (fun x => []) (fun x => x.1.1) ⟨(n, (a0.getD 0 emp), 1), h⟩ (Sub.ofL _ _ (Nat.zero_le _) ⟨rfl, rfl, rfl, rfl, rfl, rfl, rfl, rfl, trivial⟩ rfl rfl) ?_)) ?_
    rotate_left
    · rintro ⟨x27, h⟩ env st hs
      replace h : g_slices_MaxFunc_string_string__order_whole.k26 n x27 = some r := h
      unfold g_slices_MaxFunc_string_string__order_whole.k26 at h
      refine WP_sub hs ?_
      try dsimp only
      refine WP_seq ?_
      refine vcc_sound _ _ _ tabOk (by exact rfl) ?_
      repeat (first | refine Ob.mk (by first | rfl | omega | assumption | exact ⟨rfl, rfl, (List.length_map _).symm⟩ | exact ⟨rfl, rfl, by rw [List.length_map]; omega⟩) ?_ | refine Br.t ?_ | refine Br.f ?_)
      refine WP_ret ?_
      obtain rfl := Option.some.inj h
      repeat (first | refine Ob.mk (by first | rfl | omega | assumption | exact ⟨rfl, rfl, (List.length_map _).symm⟩ | exact ⟨rfl, rfl, by rw [List.length_map]; omega⟩) ?_ | refine Br.t ?_ | refine Br.f ?_)
      exact ⟨DLe.refl _, trivial⟩
    rintro ⟨⟨m26, x28, x29⟩, h⟩
    cases m26 with
    | zero => exact nomatch (show (none : Option (Str)) = some r from h)
    | succ m26 =>
      replace h : g_slices_MaxFunc_string_string__order_whole.l26b n a0 (g_slices_MaxFunc_string_string__order_whole.l26 n a0 m26) x28 x29 = some r := h
      unfold g_slices_MaxFunc_string_string__order_whole.l26b at h
      try dsimp only
      refine WP_seq ?_
      refine WP_seq ?_
      refine vcc_sound _ _ _ tabOk (by exact rfl) ?_
      repeat (first | refine Ob.mk (by first | rfl | omega | assumption | exact ⟨rfl, rfl, (List.length_map _).symm⟩ | exact ⟨rfl, rfl, by rw [List.length_map]; omega⟩) ?_ | refine Br.t ?_ | refine Br.f ?_)
      refine vcc_sound _ _ _ tabOk (by exact rfl) ?_
      repeat (first | refine Ob.mk (by first | rfl | omega | assumption | exact ⟨rfl, rfl, (List.length_map _).symm⟩ | exact ⟨rfl, rfl, by rw [List.length_map]; omega⟩) ?_ | refine Br.t ?_ | refine Br.f ?_)
      refine Br.mk (fun b31 => ?_) (fun b31 => ?_)
      · replace h := bif_t b31 h
        refine WP_skip ?_
        refine WP_seq ?_
        refine WP_block ?_
        refine WP_seq ?_
        refine vcc_sound _ _ _ tabOk (by exact rfl) ?_
        obtain ⟨c32, h⟩ := chk_some h
        obtain ⟨y33, hy33, h⟩ := bind_some h
        repeat (first | refine Ob.mk (by first | rfl | omega | assumption | exact ⟨rfl, rfl, (List.length_map _).symm⟩ | exact ⟨rfl, rfl, by rw [List.length_map]; omega⟩) ?_ | refine Br.t ?_ | refine Br.f ?_)
        refine CallD.mk _ _ (g_order_whole.ok n (a0.getD x29.toNat emp) x28 y33 hy33) (by exact ⟨DLe.refl _, DLe.refl _, trivial⟩) ?_
        repeat (first | refine Ob.mk (by first | rfl | omega | assumption | exact ⟨rfl, rfl, (List.length_map _).symm⟩ | exact ⟨rfl, rfl, by rw [List.length_map]; omega⟩) ?_ | refine Br.t ?_ | refine Br.f ?_)
        refine vcc_sound _ _ _ tabOk (by exact rfl) ?_
        repeat (first | refine Ob.mk (by first | rfl | omega | assumption | exact ⟨rfl, rfl, (List.length_map _).symm⟩ | exact ⟨rfl, rfl, by rw [List.length_map]; omega⟩) ?_ | refine Br.t ?_ | refine Br.f ?_)
        refine Br.mk (fun b34 => ?_) (fun b34 => ?_)
        · replace h := bif_t b34 h
          refine vcc_sound _ _ _ tabOk (by exact rfl) ?_
          obtain ⟨c35, h⟩ := chk_some h
          repeat (first | refine Ob.mk (by first | rfl | omega | assumption | exact ⟨rfl, rfl, (List.length_map _).symm⟩ | exact ⟨rfl, rfl, by rw [List.length_map]; omega⟩) ?_ | refine Br.t ?_ | refine Br.f ?_)
          refine vcc_sound _ _ _ tabOk (by exact rfl) ?_
          obtain ⟨c36, h⟩ := chk_some h
          repeat (first | refine Ob.mk (by first | rfl | omega | assumption | exact ⟨rfl, rfl, (List.length_map _).symm⟩ | exact ⟨rfl, rfl, by rw [List.length_map]; omega⟩) ?_ | refine Br.t ?_ | refine Br.f ?_)
          repeat (first | refine Ob.mk (by first | rfl | omega | assumption | exact ⟨rfl, rfl, (List.length_map _).symm⟩ | exact ⟨rfl, rfl, by rw [List.length_map]; omega⟩) ?_ | refine Br.t ?_ | refine Br.f ?_)
          exact ⟨⟨(m26, (a0.getD x29.toNat emp), (x29 + 1)), h⟩, Nat.lt_succ_self _, Sub.ofL _ _ (Nat.zero_le _) ⟨rfl, rfl, rfl, rfl, rfl, rfl, rfl, rfl, trivial⟩ rfl rfl⟩
        · replace h := bif_f b34 h
          refine WP_skip ?_
          refine vcc_sound _ _ _ tabOk (by exact rfl) ?_
          obtain ⟨c37, h⟩ := chk_some h
          repeat (first | refine Ob.mk (by first | rfl | omega | assumption | exact ⟨rfl, rfl, (List.length_map _).symm⟩ | exact ⟨rfl, rfl, by rw [List.length_map]; omega⟩) ?_ | refine Br.t ?_ | refine Br.f ?_)
          repeat (first | refine Ob.mk (by first | rfl | omega | assumption | exact ⟨rfl, rfl, (List.length_map _).symm⟩ | exact ⟨rfl, rfl, by rw [List.length_map]; omega⟩) ?_ | refine Br.t ?_ | refine Br.f ?_)
          exact ⟨⟨(m26, x28, (x29 + 1)), h⟩, Nat.lt_succ_self _, Sub.ofL _ _ (Nat.zero_le _) ⟨rfl, rfl, rfl, rfl, rfl, rfl, rfl, rfl, trivial⟩ rfl rfl⟩
      · replace h := bif_f b31 h
        refine WP_exit ?_
        repeat (first | refine Ob.mk (by first | rfl | omega | assumption | exact ⟨rfl, rfl, (List.length_map _).symm⟩ | exact ⟨rfl, rfl, by rw [List.length_map]; omega⟩) ?_ | refine Br.t ?_ | refine Br.f ?_)
        exact ⟨⟨x28, h⟩, Sub.ofL _ _ (Nat.zero_le _) ⟨rfl, rfl, trivial⟩ rfl rfl⟩

/-! ### newel/order.Greatest -/
def g_order_Greatest (n : Nat) (a0 : (List Str)) : Option (Str × Bool) :=
  bif ((a0.length : Int) == 0) then (
    some (emp, false)
  ) else (
    (g_slices_MaxFunc_string_string__order_whole n a0).bind fun y3 =>
    some (y3, true)
  )
theorem g_order_Greatest.ok (n : Nat) (a0 : (List Str)) (r : Str × Bool) (h : g_order_Greatest n a0 = some r) : Impl Tryd.prog 19 [.one (.tl Str 1 encStr emp a0)] [.one (dstr r.1), .one (dbool r.2)] := by
  refine impl_wp tabOk Tryd.func19 rfl rfl (by kernel_rfl) ?_
  unfold g_order_Greatest at h
  refine WP_seq ?_
  refine vcc_sound _ _ _ tabOk (by exact rfl) ?_
  repeat (first | refine Ob.mk (by first | rfl | omega | assumption | exact ⟨rfl, rfl, (List.length_map _).symm⟩ | exact ⟨rfl, rfl, by rw [List.length_map]; omega⟩) ?_ | refine Br.t ?_ | refine Br.f ?_)
  refine WP_seq ?_
  refine WP_seq ?_
  refine vcc_sound _ _ _ tabOk (by exact rfl) ?_
  repeat (first | refine Ob.mk (by first | rfl | omega | assumption | exact ⟨rfl, rfl, (List.length_map _).symm⟩ | exact ⟨rfl, rfl, by rw [List.length_map]; omega⟩) ?_ | refine Br.t ?_ | refine Br.f ?_)
  refine vcc_sound _ _ _ tabOk (by exact rfl) ?_
  repeat (first | refine Ob.mk (by first | rfl | omega | assumption | exact ⟨rfl, rfl, (List.length_map _).symm⟩ | exact ⟨rfl, rfl, by rw [List.length_map]; omega⟩) ?_ | refine Br.t ?_ | refine Br.f ?_)
  refine Br.mk (fun b2 => ?_) (fun b2 => ?_)
  · replace h := bif_t b2 h
    refine WP_seq ?_
    refine vcc_sound _ _ _ tabOk (by exact rfl) ?_
    repeat (first | refine Ob.mk (by first | rfl | omega | assumption | exact ⟨rfl, rfl, (List.length_map _).symm⟩ | exact ⟨rfl, rfl, by rw [List.length_map]; omega⟩) ?_ | refine Br.t ?_ | refine Br.f ?_)
    refine WP_ret ?_
    obtain rfl := Option.some.inj h
    repeat (first | refine Ob.mk (by first | rfl | omega | assumption | exact ⟨rfl, rfl, (List.length_map _).symm⟩ | exact ⟨rfl, rfl, by rw [List.length_map]; omega⟩) ?_ | refine Br.t ?_ | refine Br.f ?_)
    exact ⟨DLe.refl _, DLe.refl _, trivial⟩
  · replace h := bif_f b2 h
    refine WP_skip ?_
    refine WP_seq ?_
    refine vcc_sound _ _ _ tabOk (by exact rfl) ?_
    obtain ⟨y3, hy3, h⟩ := bind_some h
    repeat (first | refine Ob.mk (by first | rfl | omega | assumption | exact ⟨rfl, rfl, (List.length_map _).symm⟩ | exact ⟨rfl, rfl, by rw [List.length_map]; omega⟩) ?_ | refine Br.t ?_ | refine Br.f ?_)
    refine CallD.mk _ _ (g_slices_MaxFunc_string_string__order_whole.ok n a0 y3 hy3) (by exact ⟨DLe.refl _, DLe.refl _, trivial⟩) ?_
    repeat (first | refine Ob.mk (by first | rfl | omega | assumption | exact ⟨rfl, rfl, (List.length_map _).symm⟩ | exact ⟨rfl, rfl, by rw [List.length_map]; omega⟩) ?_ | refine Br.t ?_ | refine Br.f ?_)
    refine WP_ret ?_
    obtain rfl := Option.some.inj h
    repeat (first | refine Ob.mk (by first | rfl | omega | assumption | exact ⟨rfl, rfl, (List.length_map _).symm⟩ | exact ⟨rfl, rfl, by rw [List.length_map]; omega⟩) ?_ | refine Br.t ?_ | refine Br.f ?_)
    exact ⟨DLe.refl _, DLe.refl _, trivial⟩

/-! ### newel/newellaw06.OrderSorts -/
def g_newellaw06_OrderSorts.k79 (n : Nat) (y44 : (List Str)) (y45 : Str × Bool) : Option (Bool) :=
  bif ((y44.length : Int) == 0) then (
    some true
  ) else (
    chk (in64 ((y44.length : Int) - 1)) <|
    chk (0 ≤ ((y44.length : Int) - 1) ∧ ((y44.length : Int) - 1) < (y44.length : Int)) <|
    some (y45.1.toList == (y44.getD (((y44.length : Int) - 1).toNat) emp).toList)
  )
def g_newellaw06_OrderSorts.l79b (n : Nat) (y44 : (List Str)) (y45 : Str × Bool) (rec79 : Int → Option (Bool)) (x83 : Int) : Option (Bool) :=
  bif (decide (x83 < (y44.length : Int))) then (
    chk (in64 (x83 - 1)) <|
    chk (0 ≤ (x83 - 1) ∧ (x83 - 1) < (y44.length : Int)) <|
    chk (0 ≤ x83 ∧ x83 < (y44.length : Int)) <|
    (g_order_Compare n (y44.getD ((x83 - 1).toNat) emp) (y44.getD x83.toNat emp)).bind fun y89 =>
    bif (decide (y89 > 0)) then (
      some false
    ) else (
      chk (in64 (x83 + 1)) <|
      rec79 (x83 + 1)
    )
  ) else (
    g_newellaw06_OrderSorts.k79 n y44 y45
  )
def g_newellaw06_OrderSorts.l79 (n : Nat) (y44 : (List Str)) (y45 : Str × Bool) : Nat → Int → Option (Bool)
  | 0, _ => none
  | m + 1, x83 => g_newellaw06_OrderSorts.l79b n y44 y45 (g_newellaw06_OrderSorts.l79 n y44 y45 m) x83
def g_newellaw06_OrderSorts.k42 (n : Nat) (a0 : (List Str)) (l43 : (List Str)) : Option (Bool) :=
  (g_order_Sort n a0).bind fun y44 =>
  (g_order_Greatest n l43).bind fun y45 =>
  (g_newellaw06_awake n).bind fun y53 =>
  bif (!y53) then (
    some false
  ) else (
    bif ((y44.length : Int) != (a0.length : Int)) then (
      some false
    ) else (
      (g_order_Sort n l43).bind fun y56 =>
      (g_newelhelp_Plain_string n y56 y44).bind fun y57 =>
      bif (!y57) then (
        some false
      ) else (
        bif (!(y45.2 == decide ((a0.length : Int) > 0))) then (
          some false
        ) else (
          g_newellaw06_OrderSorts.l79 n y44 y45 n 1
        )
      )
    )
  )
def g_newellaw06_OrderSorts.l42b (n : Nat) (a0 : (List Str)) (a1 : (List Int)) (rec42 : (List Str) → Int → Option (Bool)) (l92 : (List Str)) (x93 : Int) : Option (Bool) :=
  bif (decide (x93 < (a1.length : Int))) then (
    bif (decide (x93 < 30)) then (
      bif (decide ((l92.length : Int) > 0)) then (
        chk (0 ≤ x93 ∧ x93 < (a1.length : Int)) <|
        chk ((IntKind.wrap .u64 (l92.length : Int)) ≠ 0) <|
        chk ((l92.length : Int) ≠ 0) <|
        chk (0 ≤ (IntKind.wrap .i64 ((IntKind.wrap .u64 (a1.getD x93.toNat (0 : Int))).tmod (IntKind.wrap .u64 (l92.length : Int)))) ∧ (IntKind.wrap .i64 ((IntKind.wrap .u64 (a1.getD x93.toNat (0 : Int))).tmod (IntKind.wrap .u64 (l92.length : Int)))) < (l92.length : Int)) <|
        chk ((l92.length : Int) ≠ 0) <|
        chk (0 ≤ (x93.tmod (l92.length : Int)) ∧ (x93.tmod (l92.length : Int)) < (l92.length : Int)) <|
        chk (0 ≤ (x93.tmod (l92.length : Int)) ∧ (x93.tmod (l92.length : Int)) < (l92.length : Int)) <|
        chk (0 ≤ (IntKind.wrap .i64 ((IntKind.wrap .u64 (a1.getD x93.toNat (0 : Int))).tmod (IntKind.wrap .u64 (l92.length : Int)))) ∧ (IntKind.wrap .i64 ((IntKind.wrap .u64 (a1.getD x93.toNat (0 : Int))).tmod (IntKind.wrap .u64 (l92.length : Int)))) < (l92.length : Int)) <|
        chk (in64 (x93 + 1)) <|
        rec42 ((l92.set ((x93.tmod (l92.length : Int)).toNat) (l92.getD ((IntKind.wrap .i64 ((IntKind.wrap .u64 (a1.getD x93.toNat (0 : Int))).tmod (IntKind.wrap .u64 (l92.length : Int)))).toNat) emp)).set ((IntKind.wrap .i64 ((IntKind.wrap .u64 (a1.getD x93.toNat (0 : Int))).tmod (IntKind.wrap .u64 (l92.length : Int)))).toNat) (l92.getD ((x93.tmod (l92.length : Int)).toNat) emp)) (x93 + 1)
      ) else (
        g_newellaw06_OrderSorts.k42 n a0 l92
      )
    ) else (
      g_newellaw06_OrderSorts.k42 n a0 l92
    )
  ) else (
    g_newellaw06_OrderSorts.k42 n a0 l92
  )
def g_newellaw06_OrderSorts.l42 (n : Nat) (a0 : (List Str)) (a1 : (List Int)) : Nat → (List Str) → Int → Option (Bool)
  | 0, _, _ => none
  | m + 1, l92, x93 => g_newellaw06_OrderSorts.l42b n a0 a1 (g_newellaw06_OrderSorts.l42 n a0 a1 m) l92 x93
def g_newellaw06_OrderSorts (n : Nat) (a0 : (List Str)) (a1 : (List Int)) : Option (Bool) :=
  (g_newellaw06_few n a0).bind fun y4 =>
  bif (!y4) then (
    (g_newellaw06_awake n).bind fun y6 =>
    some y6
  ) else (
    chk (room a0.length 16) <|
    g_newellaw06_OrderSorts.l42 n a0 a1 n a0 0
  )
theorem g_newellaw06_OrderSorts.ok (n : Nat) (a0 : (List Str)) (a1 : (List Int)) (r : Bool) (h : g_newellaw06_OrderSorts n a0 a1 = some r) : Impl Tryd.prog 9 [.one (.tl Str 1 encStr emp a0), .one (.tl Int 1 encInt (0 : Int) a1)] [.one (dbool r)] := by
  refine impl_wp tabOk Tryd.func9 rfl rfl (by kernel_rfl) ?_
  unfold g_newellaw06_OrderSorts at h
  refine WP_seq ?_
  refine vcc_sound _ _ _ tabOk (by exact rfl) ?_
  repeat (first | refine Ob.mk (by first | rfl | omega | assumption | exact ⟨rfl, rfl, (List.length_map _).symm⟩ | exact ⟨rfl, rfl, by rw [List.length_map]; omega⟩) ?_ | refine Br.t ?_ | refine Br.f ?_)
  refine WP_seq ?_
  refine WP_seq ?_
  refine vcc_sound _ _ _ tabOk (by exact rfl) ?_
  obtain ⟨y4, hy4, h⟩ := bind_some h
  repeat (first | refine Ob.mk (by first | rfl | omega | assumption | exact ⟨rfl, rfl, (List.length_map _).symm⟩ | exact ⟨rfl, rfl, by rw [List.length_map]; omega⟩) ?_ | refine Br.t ?_ | refine Br.f ?_)
  refine CallD.mk _ _ (g_newellaw06_few.ok n a0 y4 hy4) (by exact ⟨DLe.refl _, trivial⟩) ?_
  repeat (first | refine Ob.mk (by first | rfl | omega | assumption | exact ⟨rfl, rfl, (List.length_map _).symm⟩ | exact ⟨rfl, rfl, by rw [List.length_map]; omega⟩) ?_ | refine Br.t ?_ | refine Br.f ?_)
  refine vcc_sound _ _ _ tabOk (by exact rfl) ?_
  repeat (first | refine Ob.mk (by first | rfl | omega | assumption | exact ⟨rfl, rfl, (List.length_map _).symm⟩ | exact ⟨rfl, rfl, by rw [List.length_map]; omega⟩) ?_ | refine Br.t ?_ | refine Br.f ?_)
  refine Br.mk (fun b5 => ?_) (fun b5 => ?_)
  · replace h := bif_t b5 h
    refine WP_seq ?_
    refine vcc_sound _ _ _ tabOk (by exact rfl) ?_
    obtain ⟨y6, hy6, h⟩ := bind_some h
    repeat (first | refine Ob.mk (by first | rfl | omega | assumption | exact ⟨rfl, rfl, (List.length_map _).symm⟩ | exact ⟨rfl, rfl, by rw [List.length_map]; omega⟩) ?_ | refine Br.t ?_ | refine Br.f ?_)
    refine CallD.mk _ _ (g_newellaw06_awake.ok n y6 hy6) (by exact trivial) ?_
    repeat (first | refine Ob.mk (by first | rfl | omega | assumption | exact ⟨rfl, rfl, (List.length_map _).symm⟩ | exact ⟨rfl, rfl, by rw [List.length_map]; omega⟩) ?_ | refine Br.t ?_ | refine Br.f ?_)
    refine WP_ret ?_
    obtain rfl := Option.some.inj h
    repeat (first | refine Ob.mk (by first | rfl | omega | assumption | exact ⟨rfl, rfl, (List.length_map _).symm⟩ | exact ⟨rfl, rfl, by rw [List.length_map]; omega⟩) ?_ | refine Br.t ?_ | refine Br.f ?_)
    exact ⟨DLe.refl _, trivial⟩
  · replace h := bif_f b5 h
    refine WP_skip ?_
    refine WP_seq ?_
    refine vcc_sound _ _ _ tabOk (by exact rfl) ?_
    obtain ⟨c7, h⟩ := chk_some h
    repeat (first | refine Ob.mk (by first | rfl | omega | assumption | exact ⟨rfl, rfl, (List.length_map _).symm⟩ | exact ⟨rfl, rfl, by rw [List.length_map]; omega⟩) ?_ | refine Br.t ?_ | refine Br.f ?_)
    refine AppN.ty encStr a0 ?_ c7 ?_
    · exact rfl
    repeat (first | refine Ob.mk (by first | rfl | omega | assumption | exact ⟨rfl, rfl, (List.length_map _).symm⟩ | exact ⟨rfl, rfl, by rw [List.length_map]; omega⟩) ?_ | refine Br.t ?_ | refine Br.f ?_)
    refine WP_seq ?_
    refine WP_seq ?_
    refine vcc_sound _ _ _ tabOk (by exact rfl) ?_
    repeat (first | refine Ob.mk (by first | rfl | omega | assumption | exact ⟨rfl, rfl, (List.length_map _).symm⟩ | exact ⟨rfl, rfl, by rw [List.length_map]; omega⟩) ?_ | refine Br.t ?_ | refine Br.f ?_)
    refine WP_cutQ (α := {p : (List Str) // g_newellaw06_OrderSorts.k42 n a0 p = some r}) (fun p => ofL [(0, .d (.tl Str 1 encStr emp a0)), (5, .h 0 0 0 p.1.length)]) (fun p => [.row 0 9 1 (p.1.map encStr)]) (WP_block (WP_loop (α := {x : Nat × (List Str) × Int // g_newellaw06_OrderSorts.l42 n a0 a1 x.1 x.2.1 x.2.2 = some r}) (fun x => ofL [(0, .d (.tl Str 1 encStr emp a0)), (1, .d (.tl Int 1 encInt (0 : Int) a1)), (5, .h 0 0 0 x.1.2.1.length), (6, .int x.1.2.2)]) (fun x => [.row 0 9 1 (x.1.2.1.map encStr)]) (fun x => x.1.1) ⟨(n, a0, 0), h⟩ (Sub.ofL _ _ (Nat.zero_le _) ⟨rfl, rfl, rfl, rfl, rfl, rfl, rfl, rfl, trivial⟩ rfl rfl) ?_)) ?_
    rotate_left
    · rintro ⟨l43, h⟩ env st hs
      replace h : g_newellaw06_OrderSorts.k42 n a0 l43 = some r := h
      unfold g_newellaw06_OrderSorts.k42 at h
      refine WP_sub hs ?_
      try dsimp only
      refine WP_seq ?_
      refine vcc_sound _ _ _ tabOk (by exact rfl) ?_
      obtain ⟨y44, hy44, h⟩ := bind_some h
      repeat (first | refine Ob.mk (by first | rfl | omega | assumption | exact ⟨rfl, rfl, (List.length_map _).symm⟩ | exact ⟨rfl, rfl, by rw [List.length_map]; omega⟩) ?_ | refine Br.t ?_ | refine Br.f ?_)
      refine CallD.mk _ _ (g_order_Sort.ok n a0 y44 hy44) (by exact ⟨DLe.refl _, trivial⟩) ?_
      repeat (first | refine Ob.mk (by first | rfl | omega | assumption | exact ⟨rfl, rfl, (List.length_map _).symm⟩ | exact ⟨rfl, rfl, by rw [List.length_map]; omega⟩) ?_ | refine Br.t ?_ | refine Br.f ?_)
      refine WP_seq ?_
      refine vcc_sound _ _ _ tabOk (by exact rfl) ?_
      obtain ⟨y45, hy45, h⟩ := bind_some h
      repeat (first | refine Ob.mk (by first | rfl | omega | assumption | exact ⟨rfl, rfl, (List.length_map _).symm⟩ | exact ⟨rfl, rfl, by rw [List.length_map]; omega⟩) ?_ | refine Br.t ?_ | refine Br.f ?_)
      refine CallE.lend ⟨⟨rfl, rfl, (List.length_map _).symm⟩, ⟨_, _, g_order_Greatest.ok n l43 y45 hy45, ⟨DLe.tl emp rfl, trivial⟩, rfl, ?_⟩⟩
      repeat (first | refine Ob.mk (by first | rfl | omega | assumption | exact ⟨rfl, rfl, (List.length_map _).symm⟩ | exact ⟨rfl, rfl, by rw [List.length_map]; omega⟩) ?_ | refine Br.t ?_ | refine Br.f ?_)
      refine WP_seq ?_
      refine WP_seq ?_
      refine WP_sub (Sub.shutT (s := 0) (k := 0) (n := l43.length) (e := 9) (sz := 1) 5 encStr emp l43 rfl rfl rfl) ?_
      refine vcc_sound _ _ _ tabOk (by exact rfl) ?_
      obtain ⟨y53, hy53, h⟩ := bind_some h
      repeat (first | refine Ob.mk (by first | rfl | omega | assumption | exact ⟨rfl, rfl, (List.length_map _).symm⟩ | exact ⟨rfl, rfl, by rw [List.length_map]; omega⟩) ?_ | refine Br.t ?_ | refine Br.f ?_)
      refine CallD.mk _ _ (g_newellaw06_awake.ok n y53 hy53) (by exact trivial) ?_
      repeat (first | refine Ob.mk (by first | rfl | omega | assumption | exact ⟨rfl, rfl, (List.length_map _).symm⟩ | exact ⟨rfl, rfl, by rw [List.length_map]; omega⟩) ?_ | refine Br.t ?_ | refine Br.f ?_)
      refine Br.mk (fun b54 => ?_) (fun b54 => ?_)
      · replace h := bif_t b54 h
        repeat (first | refine Ob.mk (by first | rfl | omega | assumption | exact ⟨rfl, rfl, (List.length_map _).symm⟩ | exact ⟨rfl, rfl, by rw [List.length_map]; omega⟩) ?_ | refine Br.t ?_ | refine Br.f ?_)
        refine vcc_sound _ _ _ tabOk (by exact rfl) ?_
        repeat (first | refine Ob.mk (by first | rfl | omega | assumption | exact ⟨rfl, rfl, (List.length_map _).symm⟩ | exact ⟨rfl, rfl, by rw [List.length_map]; omega⟩) ?_ | refine Br.t ?_ | refine Br.f ?_)
        refine WP_seq ?_
        refine vcc_sound _ _ _ tabOk (by exact rfl) ?_
        repeat (first | refine Ob.mk (by first | rfl | omega | assumption | exact ⟨rfl, rfl, (List.length_map _).symm⟩ | exact ⟨rfl, rfl, by rw [List.length_map]; omega⟩) ?_ | refine Br.t ?_ | refine Br.f ?_)
        refine WP_ret ?_
        obtain rfl := Option.some.inj h
        repeat (first | refine Ob.mk (by first | rfl | omega | assumption | exact ⟨rfl, rfl, (List.length_map _).symm⟩ | exact ⟨rfl, rfl, by rw [List.length_map]; omega⟩) ?_ | refine Br.t ?_ | refine Br.f ?_)
        exact ⟨DLe.refl _, trivial⟩
      · replace h := bif_f b54 h
        repeat (first | refine Ob.mk (by first | rfl | omega | assumption | exact ⟨rfl, rfl, (List.length_map _).symm⟩ | exact ⟨rfl, rfl, by rw [List.length_map]; omega⟩) ?_ | refine Br.t ?_ | refine Br.f ?_)
        refine Br.mk (fun b55 => ?_) (fun b55 => ?_)
        · replace h := bif_t b55 h
          repeat (first | refine Ob.mk (by first | rfl | omega | assumption | exact ⟨rfl, rfl, (List.length_map _).symm⟩ | exact ⟨rfl, rfl, by rw [List.length_map]; omega⟩) ?_ | refine Br.t ?_ | refine Br.f ?_)
          refine vcc_sound _ _ _ tabOk (by exact rfl) ?_
          repeat (first | refine Ob.mk (by first | rfl | omega | assumption | exact ⟨rfl, rfl, (List.length_map _).symm⟩ | exact ⟨rfl, rfl, by rw [List.length_map]; omega⟩) ?_ | refine Br.t ?_ | refine Br.f ?_)
          refine WP_seq ?_
          refine vcc_sound _ _ _ tabOk (by exact rfl) ?_
          repeat (first | refine Ob.mk (by first | rfl | omega | assumption | exact ⟨rfl, rfl, (List.length_map _).symm⟩ | exact ⟨rfl, rfl, by rw [List.length_map]; omega⟩) ?_ | refine Br.t ?_ | refine Br.f ?_)
          refine WP_ret ?_
          obtain rfl := Option.some.inj h
          repeat (first | refine Ob.mk (by first | rfl | omega | assumption | exact ⟨rfl, rfl, (List.length_map _).symm⟩ | exact ⟨rfl, rfl, by rw [List.length_map]; omega⟩) ?_ | refine Br.t ?_ | refine Br.f ?_)
          exact ⟨DLe.refl _, trivial⟩
        · replace h := bif_f b55 h
          obtain ⟨y56, hy56, h⟩ := bind_some h
          repeat (first | refine Ob.mk (by first | rfl | omega | assumption | exact ⟨rfl, rfl, (List.length_map _).symm⟩ | exact ⟨rfl, rfl, by rw [List.length_map]; omega⟩) ?_ | refine Br.t ?_ | refine Br.f ?_)
          refine CallD.mk _ _ (g_order_Sort.ok n l43 y56 hy56) (by exact ⟨DLe.refl _, trivial⟩) ?_
          obtain ⟨y57, hy57, h⟩ := bind_some h
          repeat (first | refine Ob.mk (by first | rfl | omega | assumption | exact ⟨rfl, rfl, (List.length_map _).symm⟩ | exact ⟨rfl, rfl, by rw [List.length_map]; omega⟩) ?_ | refine Br.t ?_ | refine Br.f ?_)
          refine CallD.mk _ _ (g_newelhelp_Plain_string.ok n y56 y44 y57 hy57) (by exact ⟨DLe.refl _, DLe.refl _, trivial⟩) ?_
          repeat (first | refine Ob.mk (by first | rfl | omega | assumption | exact ⟨rfl, rfl, (List.length_map _).symm⟩ | exact ⟨rfl, rfl, by rw [List.length_map]; omega⟩) ?_ | refine Br.t ?_ | refine Br.f ?_)
          refine Br.mk (fun b58 => ?_) (fun b58 => ?_)
          · replace h := bif_t b58 h
            repeat (first | refine Ob.mk (by first | rfl | omega | assumption | exact ⟨rfl, rfl, (List.length_map _).symm⟩ | exact ⟨rfl, rfl, by rw [List.length_map]; omega⟩) ?_ | refine Br.t ?_ | refine Br.f ?_)
            refine vcc_sound _ _ _ tabOk (by exact rfl) ?_
            repeat (first | refine Ob.mk (by first | rfl | omega | assumption | exact ⟨rfl, rfl, (List.length_map _).symm⟩ | exact ⟨rfl, rfl, by rw [List.length_map]; omega⟩) ?_ | refine Br.t ?_ | refine Br.f ?_)
            refine WP_seq ?_
            refine vcc_sound _ _ _ tabOk (by exact rfl) ?_
            repeat (first | refine Ob.mk (by first | rfl | omega | assumption | exact ⟨rfl, rfl, (List.length_map _).symm⟩ | exact ⟨rfl, rfl, by rw [List.length_map]; omega⟩) ?_ | refine Br.t ?_ | refine Br.f ?_)
            refine WP_ret ?_
            obtain rfl := Option.some.inj h
            repeat (first | refine Ob.mk (by first | rfl | omega | assumption | exact ⟨rfl, rfl, (List.length_map _).symm⟩ | exact ⟨rfl, rfl, by rw [List.length_map]; omega⟩) ?_ | refine Br.t ?_ | refine Br.f ?_)
            exact ⟨DLe.refl _, trivial⟩
          · replace h := bif_f b58 h
            repeat (first | refine Ob.mk (by first | rfl | omega | assumption | exact ⟨rfl, rfl, (List.length_map _).symm⟩ | exact ⟨rfl, rfl, by rw [List.length_map]; omega⟩) ?_ | refine Br.t ?_ | refine Br.f ?_)
            refine vcc_sound _ _ _ tabOk (by exact rfl) ?_
            repeat (first | refine Ob.mk (by first | rfl | omega | assumption | exact ⟨rfl, rfl, (List.length_map _).symm⟩ | exact ⟨rfl, rfl, by rw [List.length_map]; omega⟩) ?_ | refine Br.t ?_ | refine Br.f ?_)
            refine Br.mk (fun b59 => ?_) (fun b59 => ?_)
            · replace h := bif_t b59 h
              refine WP_seq ?_
              refine vcc_sound _ _ _ tabOk (by exact rfl) ?_
              repeat (first | refine Ob.mk (by first | rfl | omega | assumption | exact ⟨rfl, rfl, (List.length_map _).symm⟩ | exact ⟨rfl, rfl, by rw [List.length_map]; omega⟩) ?_ | refine Br.t ?_ | refine Br.f ?_)
              refine WP_ret ?_
              obtain rfl := Option.some.inj h
              repeat (first | refine Ob.mk (by first | rfl | omega | assumption | exact ⟨rfl, rfl, (List.length_map _).symm⟩ | exact ⟨rfl, rfl, by rw [List.length_map]; omega⟩) ?_ | refine Br.t ?_ | refine Br.f ?_)
              exact ⟨DLe.refl _, trivial⟩
            · replace h := bif_f b59 h
              refine WP_skip ?_
              refine WP_seq ?_
              refine WP_seq ?_
              refine vcc_sound _ _ _ tabOk (by exact rfl) ?_
              repeat (first | refine Ob.mk (by first | rfl | omega | assumption | exact ⟨rfl, rfl, (List.length_map _).symm⟩ | exact ⟨rfl, rfl, by rw [List.length_map]; omega⟩) ?_ | refine Br.t ?_ | refine Br.f ?_)
              refine WP_cutQ (α := {p : Unit // g_newellaw06_OrderSorts.k79 n y44 y45 = some r}) (fun p => ofL [(8, .d (.tl Str 1 encStr emp y44)), (9, .str y45.1)]) (fun p => []) (WP_block (WP_loop (α := {x : Nat × Int // g_newellaw06_OrderSorts.l79 n y44 y45 x.1 x.2 = some r}) (fun x => ofL [(8, .d (.tl Str 1 encStr emp y44)), (9, .str y45.1), (11, .int x.1.2)]) (fun x => []) (fun x => x.1.1) ⟨(n, 1), h⟩ (Sub.ofL _ _ (Nat.zero_le _) ⟨rfl, rfl, rfl, rfl, rfl, rfl, trivial⟩ rfl rfl) ?_)) ?_
              rotate_left
              · rintro ⟨⟨⟩, h⟩ env st hs
                replace h : g_newellaw06_OrderSorts.k79 n y44 y45 = some r := h
                unfold g_newellaw06_OrderSorts.k79 at h
                refine WP_sub hs ?_
                try dsimp only
                refine WP_seq ?_
                refine vcc_sound _ _ _ tabOk (by exact rfl) ?_
                repeat (first | refine Ob.mk (by first | rfl | omega | assumption | exact ⟨rfl, rfl, (List.length_map _).symm⟩ | exact ⟨rfl, rfl, by rw [List.length_map]; omega⟩) ?_ | refine Br.t ?_ | refine Br.f ?_)
                refine Br.mk (fun b80 => ?_) (fun b80 => ?_)
                · replace h := bif_t b80 h
                  repeat (first | refine Ob.mk (by first | rfl | omega | assumption | exact ⟨rfl, rfl, (List.length_map _).symm⟩ | exact ⟨rfl, rfl, by rw [List.length_map]; omega⟩) ?_ | refine Br.t ?_ | refine Br.f ?_)
                  refine WP_ret ?_
                  obtain rfl := Option.some.inj h
                  repeat (first | refine Ob.mk (by first | rfl | omega | assumption | exact ⟨rfl, rfl, (List.length_map _).symm⟩ | exact ⟨rfl, rfl, by rw [List.length_map]; omega⟩) ?_ | refine Br.t ?_ | refine Br.f ?_)
                  exact ⟨DLe.refl _, trivial⟩
                · replace h := bif_f b80 h
                  obtain ⟨c81, h⟩ := chk_some h
                  obtain ⟨c82, h⟩ := chk_some h
                  repeat (first | refine Ob.mk (by first | rfl | omega | assumption | exact ⟨rfl, rfl, (List.length_map _).symm⟩ | exact ⟨rfl, rfl, by rw [List.length_map]; omega⟩) ?_ | refine Br.t ?_ | refine Br.f ?_)
                  refine WP_ret ?_
                  obtain rfl := Option.some.inj h
                  repeat (first | refine Ob.mk (by first | rfl | omega | assumption | exact ⟨rfl, rfl, (List.length_map _).symm⟩ | exact ⟨rfl, rfl, by rw [List.length_map]; omega⟩) ?_ | refine Br.t ?_ | refine Br.f ?_)
                  exact ⟨DLe.refl _, trivial⟩
              rintro ⟨⟨m79, x83⟩, h⟩
              cases m79 with
              | zero => exact nomatch (show (none : Option (Bool)) = some r from h)
              | succ m79 =>
                replace h : g_newellaw06_OrderSorts.l79b n y44 y45 (g_newellaw06_OrderSorts.l79 n y44 y45 m79) x83 = some r := h
                unfold g_newellaw06_OrderSorts.l79b at h
                try dsimp only
                refine WP_seq ?_
                refine WP_seq ?_
                refine vcc_sound _ _ _ tabOk (by exact rfl) ?_
                repeat (first | refine Ob.mk (by first | rfl | omega | assumption | exact ⟨rfl, rfl, (List.length_map _).symm⟩ | exact ⟨rfl, rfl, by rw [List.length_map]; omega⟩) ?_ | refine Br.t ?_ | refine Br.f ?_)
                refine vcc_sound _ _ _ tabOk (by exact rfl) ?_
                repeat (first | refine Ob.mk (by first | rfl | omega | assumption | exact ⟨rfl, rfl, (List.length_map _).symm⟩ | exact ⟨rfl, rfl, by rw [List.length_map]; omega⟩) ?_ | refine Br.t ?_ | refine Br.f ?_)
                refine Br.mk (fun b85 => ?_) (fun b85 => ?_)
                · replace h := bif_t b85 h
                  refine WP_skip ?_
                  refine WP_seq ?_
                  refine WP_block ?_
                  refine WP_seq ?_
                  refine cdraw1 tabOk (by kernel_rfl) ?_
                  obtain ⟨c86, h⟩ := chk_some h
                  obtain ⟨c87, h⟩ := chk_some h
                  obtain ⟨c88, h⟩ := chk_some h
                  obtain ⟨y89, hy89, h⟩ := bind_some h
                  repeat (first | refine Ob.mk (by first | rfl | omega | assumption | exact ⟨rfl, rfl, (List.length_map _).symm⟩ | exact ⟨rfl, rfl, by rw [List.length_map]; omega⟩) ?_ | refine Br.t ?_ | refine Br.f ?_)
                  refine CallD.mk _ _ (g_order_Compare.ok n (y44.getD ((x83 - 1).toNat) emp) (y44.getD x83.toNat emp) y89 hy89) (by exact ⟨DLe.refl _, DLe.refl _, trivial⟩) ?_
                  repeat (first | refine Ob.mk (by first | rfl | omega | assumption | exact ⟨rfl, rfl, (List.length_map _).symm⟩ | exact ⟨rfl, rfl, by rw [List.length_map]; omega⟩) ?_ | refine Br.t ?_ | refine Br.f ?_)
                  refine vcc_sound _ _ _ tabOk (by exact rfl) ?_
                  repeat (first | refine Ob.mk (by first | rfl | omega | assumption | exact ⟨rfl, rfl, (List.length_map _).symm⟩ | exact ⟨rfl, rfl, by rw [List.length_map]; omega⟩) ?_ | refine Br.t ?_ | refine Br.f ?_)
                  refine Br.mk (fun b90 => ?_) (fun b90 => ?_)
                  · replace h := bif_t b90 h
                    refine WP_seq ?_
                    refine vcc_sound _ _ _ tabOk (by exact rfl) ?_
                    repeat (first | refine Ob.mk (by first | rfl | omega | assumption | exact ⟨rfl, rfl, (List.length_map _).symm⟩ | exact ⟨rfl, rfl, by rw [List.length_map]; omega⟩) ?_ | refine Br.t ?_ | refine Br.f ?_)
                    refine WP_ret ?_
                    obtain rfl := Option.some.inj h
                    repeat (first | refine Ob.mk (by first | rfl | omega | assumption | exact ⟨rfl, rfl, (List.length_map _).symm⟩ | exact ⟨rfl, rfl, by rw [List.length_map]; omega⟩) ?_ | refine Br.t ?_ | refine Br.f ?_)
                    exact ⟨DLe.refl _, trivial⟩
                  · replace h := bif_f b90 h
                    refine WP_skip ?_
                    refine vcc_sound _ _ _ tabOk (by exact rfl) ?_
                    obtain ⟨c91, h⟩ := chk_some h
                    repeat (first | refine Ob.mk (by first | rfl | omega | assumption | exact ⟨rfl, rfl, (List.length_map _).symm⟩ | exact ⟨rfl, rfl, by rw [List.length_map]; omega⟩) ?_ | refine Br.t ?_ | refine Br.f ?_)
                    repeat (first | refine Ob.mk (by first | rfl | omega | assumption | exact ⟨rfl, rfl, (List.length_map _).symm⟩ | exact ⟨rfl, rfl, by rw [List.length_map]; omega⟩) ?_ | refine Br.t ?_ | refine Br.f ?_)
                    exact ⟨⟨(m79, (x83 + 1)), h⟩, Nat.lt_succ_self _, Sub.ofL _ _ (Nat.zero_le _) ⟨rfl, rfl, rfl, rfl, rfl, rfl, trivial⟩ rfl rfl⟩
                · replace h := bif_f b85 h
                  refine WP_exit ?_
                  repeat (first | refine Ob.mk (by first | rfl | omega | assumption | exact ⟨rfl, rfl, (List.length_map _).symm⟩ | exact ⟨rfl, rfl, by rw [List.length_map]; omega⟩) ?_ | refine Br.t ?_ | refine Br.f ?_)
                  exact ⟨⟨(), h⟩, Sub.ofL _ _ (Nat.zero_le _) ⟨rfl, rfl, rfl, rfl, trivial⟩ rfl rfl⟩
    rintro ⟨⟨m42, l92, x93⟩, h⟩
    cases m42 with
    | zero => exact nomatch (show (none : Option (Bool)) = some r from h)
    | succ m42 =>
      replace h : g_newellaw06_OrderSorts.l42b n a0 a1 (g_newellaw06_OrderSorts.l42 n a0 a1 m42) l92 x93 = some r := h
      unfold g_newellaw06_OrderSorts.l42b at h
      try dsimp only
      refine WP_seq ?_
      refine WP_seq ?_
      refine vcc_sound _ _ _ tabOk (by exact rfl) ?_
      repeat (first | refine Ob.mk (by first | rfl | omega | assumption | exact ⟨rfl, rfl, (List.length_map _).symm⟩ | exact ⟨rfl, rfl, by rw [List.length_map]; omega⟩) ?_ | refine Br.t ?_ | refine Br.f ?_)
      refine Br.mk (fun b97 => ?_) (fun b97 => ?_)
      · replace h := bif_t b97 h
        repeat (first | refine Ob.mk (by first | rfl | omega | assumption | exact ⟨rfl, rfl, (List.length_map _).symm⟩ | exact ⟨rfl, rfl, by rw [List.length_map]; omega⟩) ?_ | refine Br.t ?_ | refine Br.f ?_)
        refine Br.mk (fun b98 => ?_) (fun b98 => ?_)
        · replace h := bif_t b98 h
          repeat (first | refine Ob.mk (by first | rfl | omega | assumption | exact ⟨rfl, rfl, (List.length_map _).symm⟩ | exact ⟨rfl, rfl, by rw [List.length_map]; omega⟩) ?_ | refine Br.t ?_ | refine Br.f ?_)
          refine vcc_sound _ _ _ tabOk (by exact rfl) ?_
          repeat (first | refine Ob.mk (by first | rfl | omega | assumption | exact ⟨rfl, rfl, (List.length_map _).symm⟩ | exact ⟨rfl, rfl, by rw [List.length_map]; omega⟩) ?_ | refine Br.t ?_ | refine Br.f ?_)
          refine Br.mk (fun b99 => ?_) (fun b99 => ?_)
          · replace h := bif_t b99 h
            refine WP_skip ?_
            refine WP_seq ?_
            refine WP_block ?_
            refine WP_seq ?_
            refine vcc_sound _ _ _ tabOk (by exact rfl) ?_
            obtain ⟨c100, h⟩ := chk_some h
            obtain ⟨c101, h⟩ := chk_some h
            repeat (first | refine Ob.mk (by first | rfl | omega | assumption | exact ⟨rfl, rfl, (List.length_map _).symm⟩ | exact ⟨rfl, rfl, by rw [List.length_map]; omega⟩) ?_ | refine Br.t ?_ | refine Br.f ?_)
            refine cdraw4 tabOk 19 [0, 1, 2, 5, 6, 7, 8, 11, 12, 13] (by kernel_rfl) ?_
            obtain ⟨c102, h⟩ := chk_some h
            obtain ⟨c103, h⟩ := chk_some h
            repeat (first | refine Ob.mk (by first | rfl | omega | assumption | exact ⟨rfl, rfl, (List.length_map _).symm⟩ | exact ⟨rfl, rfl, by rw [List.length_map]; omega⟩) ?_ | refine Br.t ?_ | refine Br.f ?_)
            refine RowAt.ty emp (by first | omega | (simp only [List.length_set]; omega)) ?_
            obtain ⟨c104, h⟩ := chk_some h
            obtain ⟨c105, h⟩ := chk_some h
            repeat (first | refine Ob.mk (by first | rfl | omega | assumption | exact ⟨rfl, rfl, (List.length_map _).symm⟩ | exact ⟨rfl, rfl, by rw [List.length_map]; omega⟩) ?_ | refine Br.t ?_ | refine Br.f ?_)
            refine RowAt.ty emp (by first | omega | (simp only [List.length_set]; omega)) ?_
            obtain ⟨c106, h⟩ := chk_some h
            repeat (first | refine Ob.mk (by first | rfl | omega | assumption | exact ⟨rfl, rfl, (List.length_map _).symm⟩ | exact ⟨rfl, rfl, by rw [List.length_map]; omega⟩) ?_ | refine Br.t ?_ | refine Br.f ?_)
            refine RowSet.ty encStr l92 emp (l92.getD ((IntKind.wrap .i64 ((IntKind.wrap .u64 (a1.getD x93.toNat (0 : Int))).tmod (IntKind.wrap .u64 (l92.length : Int)))).toNat) emp) rfl (by first | omega | (simp only [List.length_set]; omega)) rfl ?_
            obtain ⟨c107, h⟩ := chk_some h
            repeat (first | refine Ob.mk (by first | rfl | omega | assumption | exact ⟨rfl, rfl, (List.length_map _).symm⟩ | exact ⟨rfl, rfl, by rw [List.length_map]; omega⟩) ?_ | refine Br.t ?_ | refine Br.f ?_)
            refine RowSet.ty encStr (l92.set ((x93.tmod (l92.length : Int)).toNat) (l92.getD ((IntKind.wrap .i64 ((IntKind.wrap .u64 (a1.getD x93.toNat (0 : Int))).tmod (IntKind.wrap .u64 (l92.length : Int)))).toNat) emp)) emp (l92.getD ((x93.tmod (l92.length : Int)).toNat) emp) rfl (by first | omega | (simp only [List.length_set]; omega)) rfl ?_
            repeat (first | refine Ob.mk (by first | rfl | omega | assumption | exact ⟨rfl, rfl, (List.length_map _).symm⟩ | exact ⟨rfl, rfl, by rw [List.length_map]; omega⟩) ?_ | refine Br.t ?_ | refine Br.f ?_)
            refine vcc_sound _ _ _ tabOk (by exact rfl) ?_
            obtain ⟨c108, h⟩ := chk_some h
            repeat (first | refine Ob.mk (by first | rfl | omega | assumption | exact ⟨rfl, rfl, (List.length_map _).symm⟩ | exact ⟨rfl, rfl, by rw [List.length_map]; omega⟩) ?_ | refine Br.t ?_ | refine Br.f ?_)
            repeat (first | refine Ob.mk (by first | rfl | omega | assumption | exact ⟨rfl, rfl, (List.length_map _).symm⟩ | exact ⟨rfl, rfl, by rw [List.length_map]; omega⟩) ?_ | refine Br.t ?_ | refine Br.f ?_)
            exact ⟨⟨(m42, ((l92.set ((x93.tmod (l92.length : Int)).toNat) (l92.getD ((IntKind.wrap .i64 ((IntKind.wrap .u64 (a1.getD x93.toNat (0 : Int))).tmod (IntKind.wrap .u64 (l92.length : Int)))).toNat) emp)).set ((IntKind.wrap .i64 ((IntKind.wrap .u64 (a1.getD x93.toNat (0 : Int))).tmod (IntKind.wrap .u64 (l92.length : Int)))).toNat) (l92.getD ((x93.tmod (l92.length : Int)).toNat) emp)), (x93 + 1)), h⟩, Nat.lt_succ_self _, Sub.ofL _ _ (Nat.zero_le _) ⟨rfl, rfl, rfl, rfl, congrArg (AV.h _ _ 0) (by first | omega | simp), rfl, rfl, rfl, trivial⟩ rfl rfl⟩
          · replace h := bif_f b99 h
            refine WP_exit ?_
            repeat (first | refine Ob.mk (by first | rfl | omega | assumption | exact ⟨rfl, rfl, (List.length_map _).symm⟩ | exact ⟨rfl, rfl, by rw [List.length_map]; omega⟩) ?_ | refine Br.t ?_ | refine Br.f ?_)
            exact ⟨⟨l92, h⟩, Sub.ofL _ _ (Nat.zero_le _) ⟨rfl, rfl, rfl, rfl, trivial⟩ rfl rfl⟩
        · replace h := bif_f b98 h
          repeat (first | refine Ob.mk (by first | rfl | omega | assumption | exact ⟨rfl, rfl, (List.length_map _).symm⟩ | exact ⟨rfl, rfl, by rw [List.length_map]; omega⟩) ?_ | refine Br.t ?_ | refine Br.f ?_)
          refine vcc_sound _ _ _ tabOk (by exact rfl) ?_
          repeat (first | refine Ob.mk (by first | rfl | omega | assumption | exact ⟨rfl, rfl, (List.length_map _).symm⟩ | exact ⟨rfl, rfl, by rw [List.length_map]; omega⟩) ?_ | refine Br.t ?_ | refine Br.f ?_)
          refine WP_exit ?_
          repeat (first | refine Ob.mk (by first | rfl | omega | assumption | exact ⟨rfl, rfl, (List.length_map _).symm⟩ | exact ⟨rfl, rfl, by rw [List.length_map]; omega⟩) ?_ | refine Br.t ?_ | refine Br.f ?_)
          exact ⟨⟨l92, h⟩, Sub.ofL _ _ (Nat.zero_le _) ⟨rfl, rfl, rfl, rfl, trivial⟩ rfl rfl⟩
      · replace h := bif_f b97 h
        repeat (first | refine Ob.mk (by first | rfl | omega | assumption | exact ⟨rfl, rfl, (List.length_map _).symm⟩ | exact ⟨rfl, rfl, by rw [List.length_map]; omega⟩) ?_ | refine Br.t ?_ | refine Br.f ?_)
        refine vcc_sound _ _ _ tabOk (by exact rfl) ?_
        repeat (first | refine Ob.mk (by first | rfl | omega | assumption | exact ⟨rfl, rfl, (List.length_map _).symm⟩ | exact ⟨rfl, rfl, by rw [List.length_map]; omega⟩) ?_ | refine Br.t ?_ | refine Br.f ?_)
        refine WP_exit ?_
        repeat (first | refine Ob.mk (by first | rfl | omega | assumption | exact ⟨rfl, rfl, (List.length_map _).symm⟩ | exact ⟨rfl, rfl, by rw [List.length_map]; omega⟩) ?_ | refine Br.t ?_ | refine Br.f ?_)
        exact ⟨⟨l92, h⟩, Sub.ofL _ _ (Nat.zero_le _) ⟨rfl, rfl, rfl, rfl, trivial⟩ rfl rfl⟩

end Go.Proofs.Nw.K
end
section
/- QL7: plain law OrderSorts. -/
open Go Go.RowKit Go.Proofs Go.Sort Go.Shelf
set_option linter.unusedVariables false
set_option linter.unusedSimpArgs false
namespace Go.Proofs.Nw.K

theorem whole_eq' (n : Nat) (hn : 3 ≤ n) (a b : Str) (ha : a.size ≤ 4194303) (hb : b.size ≤ 4194303) : g_order_whole n a b = some (wholeC a b) := by
  obtain ⟨k, rfl⟩ : ∃ k, n = k + 3 := ⟨n - 3, by omega⟩
  exact g_order_whole_eq k a b ha hb
theorem awake_eq' (n : Nat) (hn : 3 ≤ n) : g_newellaw06_awake n = some true := by
  obtain ⟨k, rfl⟩ : ∃ k, n = k + 3 := ⟨n - 3, by omega⟩
  exact awake_eq k

/-! ### the greatest -/
theorem max_loop (n : Nat) (hn : 3 ≤ n) (m : List Str) (hm : m.length ≤ 20) (hs : ∀ x ∈ m, x.size ≤ 100) : ∀ (f i : Nat) (x : Str), i ≤ m.length → m.length < i + f → x ∈ m → (∀ j (h : j < m.length), j < i → wholeC m[j] x ≤ 0) →
    ∃ g, g_slices_MaxFunc_string_string__order_whole.l26 n m f x (i : Int) = some g ∧ g ∈ m ∧ ∀ y ∈ m, wholeC y g ≤ 0
  | 0, i, x, h1, h2, _, _ => by omega
  | f + 1, i, x, h1, h2, hx, ha => by
    unfold g_slices_MaxFunc_string_string__order_whole.l26 g_slices_MaxFunc_string_string__order_whole.l26b
    rw [decN]
    by_cases hi : i < m.length
    · have hg : m.getD (i : Int).toNat emp = m[i] := by simp [hi]
      have hmi : m[i] ∈ m := List.getElem_mem hi
      have s1 := hs _ hmi
      have s2 := hs _ hx
      rw [decide_eq_true hi, cond_true, chk_at hi, hg, whole_eq' n hn _ _ (by omega) (by omega), Option.bind_some]
      have a1 := totC.anti x m[i]
      by_cases hc : wholeC m[i] x > 0
      · rw [decide_eq_true hc, cond_true, chk_at hi, chk_t (in64_nat (by omega)), show (i : Int) + 1 = ((i + 1 : Nat) : Int) by omega]
        refine max_loop n hn m hm hs f (i + 1) m[i] hi (by omega) hmi (fun j h hj => ?_)
        rcases Nat.lt_succ_iff_lt_or_eq.1 hj with hj | hj
        · exact totC.trans _ x _ (ha j h hj) (by omega)
        · subst hj
          rw [totC.refl]; omega
      · rw [decide_eq_false hc, cond_false, chk_t (in64_nat (by omega)), show (i : Int) + 1 = ((i + 1 : Nat) : Int) by omega]
        refine max_loop n hn m hm hs f (i + 1) x hi (by omega) hx (fun j h hj => ?_)
        rcases Nat.lt_succ_iff_lt_or_eq.1 hj with hj | hj
        · exact ha j h hj
        · subst hj; omega
    · rw [decide_eq_false hi, cond_false]
      refine ⟨x, rfl, hx, fun y hy => ?_⟩
      obtain ⟨j, hj, rfl⟩ := List.getElem_of_mem hy
      exact ha j hj (by omega)
theorem greatest_eq (n : Nat) (hn : 30 ≤ n) (m : List Str) (hm : m.length ≤ 20) (hs : ∀ x ∈ m, x.size ≤ 100) : (m = [] ∧ g_order_Greatest n m = some (emp, false)) ∨ ∃ g, g_order_Greatest n m = some (g, true) ∧ g ∈ m ∧ ∀ y ∈ m, wholeC y g ≤ 0 := by
  cases m with
  | nil => exact .inl ⟨rfl, rfl⟩
  | cons x r =>
    refine .inr ?_
    obtain ⟨g, h1, h2, h3⟩ := max_loop n (by omega) (x :: r) hm hs n 1 x (by simp) (by omega) (by simp) (fun j h hj => by
      obtain rfl : j = 0 := by omega
      show wholeC x x ≤ 0
      rw [totC.refl]; omega)
    refine ⟨g, ?_, h2, h3⟩
    unfold g_order_Greatest g_slices_MaxFunc_string_string__order_whole
    have hpos : 0 < (x :: r).length := by simp
    have e1 : (((x :: r).length : Int) == 0) = false := beq_eq_false_iff_ne.2 (by omega)
    have e2 : decide (((x :: r).length : Int) < 1) = false := decide_eq_false (by omega)
    rw [e1, cond_false, e2, cond_false, chk_t ⟨by omega, by omega⟩]
    have e3 : (x :: r).getD 0 emp = x := rfl
    rw [e3, show (1 : Int) = ((1 : Nat) : Int) from rfl, h1]
    rfl

/-! ### sorted -/
theorem sortV_perm (l : List Str) : (sortV l).Perm l := List.mergeSort_perm l _
theorem sortV_pair (l : List Str) : (sortV l).Pairwise fun a b => wholeC a b ≤ 0 := by
  have := List.pairwise_mergeSort (le := fun x y => !(ltOf wholeC) y x) (fun a b c h1 h2 => by
    simp only [ltOf, Bool.not_eq_true', decide_eq_false_iff_not] at *
    have a1 := totC.anti a b
    have a2 := totC.anti b c
    have a3 := totC.anti a c
    have := totC.trans a b c (by omega) (by omega)
    omega) (fun a b => by
    simp only [ltOf, Bool.or_eq_true, Bool.not_eq_true', decide_eq_false_iff_not]
    have := totC.anti a b
    omega) l
  refine List.Pairwise.imp (fun {a b} h => ?_) this
  simp only [ltOf, Bool.not_eq_true', decide_eq_false_iff_not] at h
  have := totC.anti a b
  omega
theorem sortV_same {a b : List Str} (h : a.Perm b) : sortV a = sortV b :=
  List.Perm.eq_of_pairwise (fun x y _ _ h1 h2 => wholeC_zero (by have := totC.anti x y; omega)) (sortV_pair a) (sortV_pair b) (((sortV_perm a).trans h).trans (sortV_perm b).symm)

theorem sorts_last (n : Nat) (l : List Str) (y : Str × Bool) (h : (l = [] ∧ y = (emp, false)) ∨ ∃ g, y = (g, true) ∧ g ∈ l ∧ ∀ x ∈ l, wholeC x g ≤ 0) (hl : l.length ≤ 20) : g_newellaw06_OrderSorts.k79 n (sortV l) y = some true := by
  unfold g_newellaw06_OrderSorts.k79
  have hlen := sortV_length l
  by_cases h0 : (sortV l).length = 0
  · rw [show (((sortV l).length : Int) == 0) = true by simp [h0], cond_true]
  · rw [show (((sortV l).length : Int) == 0) = false from beq_eq_false_iff_ne.2 (by omega), cond_false, chk_t (by unfold in64; omega), chk_t ⟨by omega, by omega⟩]
    rcases h with ⟨h, _⟩ | ⟨g, rfl, hg, hm⟩
    · subst h; exact absurd hlen h0
    · have hi : ((((sortV l).length : Int) - 1).toNat) < (sortV l).length := by omega
      have e : (sortV l).getD ((((sortV l).length : Int) - 1).toNat) emp = (sortV l)[(((sortV l).length : Int) - 1).toNat] := by rw [List.getD_eq_getElem?_getD, List.getElem?_eq_getElem hi]; rfl
      rw [e]
      have hgm : g ∈ sortV l := (sortV_perm l).mem_iff.2 hg
      obtain ⟨j, hj, hgj⟩ := List.getElem_of_mem hgm
      have ht : (sortV l)[(((sortV l).length : Int) - 1).toNat] ∈ l := (sortV_perm l).mem_iff.1 (List.getElem_mem hi)
      have h1 := hm _ ht
      have h2 : wholeC g (sortV l)[(((sortV l).length : Int) - 1).toNat] ≤ 0 := by
        by_cases hjj : j = (((sortV l).length : Int) - 1).toNat
        · subst hjj
          rw [hgj, totC.refl]; omega
        · rw [← hgj]
          exact List.pairwise_iff_getElem.1 (sortV_pair l) j _ hj hi (by omega)
      have h3 : g = (sortV l)[(((sortV l).length : Int) - 1).toNat] := wholeC_zero (by have := totC.anti g (sortV l)[(((sortV l).length : Int) - 1).toNat]; omega)
      rw [← h3]
      simp
theorem sorts_walk (n : Nat) (l : List Str) (y : Str × Bool) (hl : l.length ≤ 20) (hs : ∀ x ∈ l, x.size ≤ 100) (hy : g_newellaw06_OrderSorts.k79 n (sortV l) y = some true) : ∀ (f i : Nat), 1 ≤ i → l.length + 1 < i + f → i ≤ l.length + 1 → g_newellaw06_OrderSorts.l79 n (sortV l) y f (i : Int) = some true
  | 0, i, h0, h1, h2 => by omega
  | f + 1, i, h0, h1, h2 => by
    unfold g_newellaw06_OrderSorts.l79 g_newellaw06_OrderSorts.l79b
    have hlen := sortV_length l
    rw [decN]
    by_cases hi : i < (sortV l).length
    · have hi' : i - 1 < (sortV l).length := by omega
      have e1 : (sortV l).getD (i : Int).toNat emp = (sortV l)[i] := by simp [hi]
      have e2 : (sortV l).getD ((i : Int) - 1).toNat emp = (sortV l)[i - 1] := by
        have : ((i : Int) - 1).toNat = i - 1 := by omega
        rw [this, List.getD_eq_getElem?_getD, List.getElem?_eq_getElem hi']; rfl
      have s1 := hs _ ((sortV_perm l).mem_iff.1 (List.getElem_mem hi))
      have s2 := hs _ ((sortV_perm l).mem_iff.1 (List.getElem_mem hi'))
      have hp := List.pairwise_iff_getElem.1 (sortV_pair l) (i - 1) i hi' hi (by omega)
      have hc : ¬ cmpV (sortV l)[i - 1] (sortV l)[i] > 0 := by
        intro hc
        unfold wholeC at hp
        rw [if_pos (by omega)] at hp
        omega
      rw [decide_eq_true hi, cond_true, chk_t (by unfold in64; omega), chk_t ⟨by omega, by omega⟩, chk_at hi, e1, e2, g_order_Compare_eq _ _ _ (by omega) (by omega), Option.bind_some, decide_eq_false hc, cond_false, chk_t (in64_nat (by omega)), show (i : Int) + 1 = ((i + 1 : Nat) : Int) by omega]
      exact sorts_walk n l y hl hs hy f (i + 1) (by omega) (by omega) (by omega)
    · rw [decide_eq_false hi, cond_false]
      exact hy
theorem sorts_k42 (n : Nat) (hn : 40 ≤ n) (l m : List Str) (hp : m.Perm l) (hl : l.length ≤ 20) (hs : ∀ x ∈ l, x.size ≤ 100) : g_newellaw06_OrderSorts.k42 n l m = some true := by
  have hml : m.length = l.length := hp.length_eq
  have hms : ∀ x ∈ m, x.size ≤ 100 := fun x hx => hs x (hp.mem_iff.1 hx)
  have hlen := sortV_length l
  unfold g_newellaw06_OrderSorts.k42
  rw [sort_eq n l (by omega) (fun x hx => by have := hs x hx; omega), Option.bind_some]
  have key : ∀ y : Str × Bool, g_order_Greatest n m = some y → ((l = [] ∧ y = (emp, false)) ∨ ∃ g, y = (g, true) ∧ g ∈ l ∧ ∀ x ∈ l, wholeC x g ≤ 0) → (y.2 == decide ((l.length : Int) > 0)) = true →
      ((g_order_Greatest n m).bind fun y45 => (g_newellaw06_awake n).bind fun y53 =>
        bif (!y53) then some false else bif (((sortV l).length : Int) != (l.length : Int)) then some false else
          (g_order_Sort n m).bind fun y56 => (g_newelhelp_Plain_string n y56 (sortV l)).bind fun y57 =>
            bif (!y57) then some false else bif (!(y45.2 == decide ((l.length : Int) > 0))) then some false else g_newellaw06_OrderSorts.l79 n (sortV l) y45 n 1) = some true := by
    intro y hy hcase hb
    rw [hy, Option.bind_some, awake_eq' n (by omega), Option.bind_some, Bool.not_true, cond_false, show (((sortV l).length : Int) != (l.length : Int)) = false by simp [hlen], cond_false,
      sort_eq n m (by omega) (fun x hx => by have := hms x hx; omega), Option.bind_some, sortV_same hp, plain_eq n _ _ (by omega) (by omega), Option.bind_some, decide_eq_true rfl, Bool.not_true, cond_false, hb, Bool.not_true, cond_false]
    exact sorts_walk n l y hl hs (sorts_last n l y hcase hl) n 1 (by omega) (by omega) (by omega)
  rcases greatest_eq n (by omega) m (by omega) hms with ⟨hm, hg⟩ | ⟨g, hg, hgm, hgt⟩
  · have h0 : l = [] := by subst hm; exact List.eq_nil_of_length_eq_zero (by simpa using hml.symm)
    exact key _ hg (.inl ⟨h0, rfl⟩) (by subst h0; rfl)
  · have hpos : 0 < l.length := by rw [← hml]; exact List.length_pos_of_mem hgm
    exact key _ hg (.inr ⟨g, rfl, hp.mem_iff.1 hgm, fun x hx => hgt x (hp.mem_iff.2 hx)⟩) (by rw [decide_eq_true (by omega)]; rfl)

/-! ### the swaps -/
theorem mod_len (a : Int) (k : Nat) (hk : 0 < k) (hk2 : k ≤ 20) : IntKind.wrap .u64 (k : Int) = (k : Int) ∧ ∃ i : Nat, i < k ∧ IntKind.wrap .i64 ((IntKind.wrap .u64 a).tmod (k : Int)) = (i : Int) := by
  obtain ⟨i, hi, _, e⟩ := modN a k hk (by omega)
  refine ⟨?_, i, hi, e⟩
  simp only [IntKind.wrap, IntKind.bits, IntKind.signed]
  simp
  omega
theorem swap_perm (m : List Str) (i k : Nat) (hi : i < m.length) (hk : k < m.length) : ((m.set i (m.getD k emp)).set k (m.getD i emp)).Perm m := by
  have e1 : m.getD k emp = m[k] := by rw [List.getD_eq_getElem?_getD, List.getElem?_eq_getElem hk]; rfl
  have e2 : m.getD i emp = m[i] := by rw [List.getD_eq_getElem?_getD, List.getElem?_eq_getElem hi]; rfl
  rw [e1, e2]
  exact List.set_set_perm hi hk
theorem sorts_loop (n : Nat) (hn : 40 ≤ n) (l : List Str) (t : List Int) (hl : l.length ≤ 20) (hs : ∀ x ∈ l, x.size ≤ 100) : ∀ (f i : Nat) (m : List Str), i ≤ 30 → 30 < i + f → m.Perm l → g_newellaw06_OrderSorts.l42 n l t f m (i : Int) = some true
  | 0, i, m, h1, h2, _ => by omega
  | f + 1, i, m, h1, h2, hp => by
    have hk := sorts_k42 n hn l m hp hl hs
    unfold g_newellaw06_OrderSorts.l42 g_newellaw06_OrderSorts.l42b
    rw [decN]
    by_cases c1 : i < t.length
    · rw [decide_eq_true c1, cond_true]
      by_cases c2 : (i : Int) < 30
      · rw [decide_eq_true c2, cond_true]
        by_cases c3 : (m.length : Int) > 0
        · have hml := hp.length_eq
          have hpos : 0 < m.length := by omega
          obtain ⟨w1, k, hk1, w2⟩ := mod_len (t.getD (i : Int).toNat (0 : Int)) m.length hpos (by omega)
          have hq : (i : Int).tmod (m.length : Int) = ((i % m.length : Nat) : Int) := by rw [Int.tmod_eq_emod_of_nonneg (by omega)]; simp
          have hq2 : i % m.length < m.length := Nat.mod_lt _ hpos
          rw [decide_eq_true c3, cond_true, chk_at c1, w1, w2, hq, chk_t (by omega), chk_t (by omega), chk_at hk1, chk_t (by omega), chk_at hq2, chk_at hq2, chk_at hk1, chk_t (in64_nat (by omega)), Int.toNat_natCast, Int.toNat_natCast, show (i : Int) + 1 = ((i + 1 : Nat) : Int) by omega]
          exact sorts_loop n hn l t hl hs f (i + 1) _ (by omega) (by omega) ((swap_perm m _ _ hq2 hk1).trans hp)
        · rw [decide_eq_false c3, cond_false]; exact hk
      · rw [decide_eq_false c2, cond_false]; exact hk
    · rw [decide_eq_false c1, cond_false]; exact hk
theorem orderSorts_eq (l : List Str) (t : List Int) (hl : l.length ≤ 4194304) : g_newellaw06_OrderSorts (l.length + 40) l t = some true := by
  unfold g_newellaw06_OrderSorts
  rw [few_eq _ l (by omega) hl, Option.bind_some]
  cases hf : fewAt l 0 with
  | false =>
    rw [Bool.not_false, cond_true, awake_eq' _ (by omega)]
    rfl
  | true =>
    simp only [fewAt, List.drop_zero, Bool.and_eq_true, List.all_eq_true, decide_eq_true_eq] at hf
    rw [Bool.not_true, cond_false, chk_t (by unfold room; omega)]
    exact sorts_loop _ (by omega) l t hf.2 hf.1 (l.length + 40) 0 l (by omega) (by omega) (List.Perm.refl _)
theorem OrderSorts_impl (l : List Str) (t : List Int) (_ : l.length ≤ maxLen ∧ ∀ s ∈ l, s.size ≤ maxLen) (_ : t.length ≤ maxLen ∧ ∀ s ∈ t, isInt s) (h : (l.map (fun s => s.size + 1)).sum + 1 + ((t.map (fun _ => 1)).sum + 1) ≤ 1048576) :
    Impl Tryd.prog 9 [.one (.tl Str 1 encStr emp l), .one (.tl Int 1 encInt (0 : Int) t)] [.one (.sc (.bool true))] := by
  have e : ∀ l : List Str, l.length ≤ (l.map (fun s => s.size + 1)).sum := fun l => by induction l with
    | nil => exact Nat.le_refl _
    | cons x r ih => simp only [List.map_cons, List.sum_cons, List.length_cons]; omega
  have := e l
  exact g_newellaw06_OrderSorts.ok (l.length + 40) l t true (orderSorts_eq l t (by omega))
end Go.Proofs.Nw.K
end
section
/- QL8: the document's order of versions is the program's. -/
open Go Go.RowKit Go.Proofs Go.Sort Go.Shelf
set_option linter.unusedVariables false
set_option linter.unusedSimpArgs false
namespace Go.Proofs.Nw.K

theorem u8_lt (b : UInt8) : (b.toNat : Int) < 256 := by have := b.toNat_lt; omega
theorem str_len (s : Str) : s.data.toList.length = s.size := (str_size s).symm
theorem byteAt_lo (s : Str) (i : Nat) (h : i < s.size) : 0 ≤ byteAt s i ∧ byteAt s i < 256 := by
  rw [byteAt_lt s i (by rw [str_len]; exact h)]
  have := u8_lt (s.data.toList[i]'(by rw [str_len]; exact h))
  exact ⟨by omega, this⟩

/-! ### small letters -/
theorem low_k76 (n : Nat) (l : List Int) (v : Nat) (i : Int) (rec : List Int → Nat → Int → Option Str) (x : Int) (h1 : l.length ≤ 4194304) (h2 : 0 ≤ i) (h3 : i ≤ 4194304) : g_newelref01_Lower.k76 n l v i rec x = rec (l ++ [x]) (v + 1) (i + 1) := by
  unfold g_newelref01_Lower.k76
  rw [chk_t (by unfold room; simp only [List.length_append, List.length_singleton]; omega), chk_t (by unfold in64; omega)]
theorem rLower_loop (n : Nat) (s : Str) (hs : s.size ≤ 4194303) : ∀ (m i v : Nat), i ≤ s.size → s.size < i + m → g_newelref01_Lower.l61 n s m (((bytesI s).take i).map lowI) v (i : Int) = some (lowerOf s)
  | 0, i, v, h1, h => by omega
  | m + 1, i, v, h1, h => by
    unfold g_newelref01_Lower.l61 g_newelref01_Lower.l61b
    rw [decN]
    by_cases hi : i < s.size
    · have hl : ((bytesI s).take (i + 1)).map lowI = ((bytesI s).take i).map lowI ++ [lowI (byteAt s i)] := by
        obtain ⟨h3, h4⟩ := List.getElem?_eq_some_iff.1 (bytesI_get s i (by rw [str_len]; exact hi))
        rw [List.take_succ_eq_append_getElem h3, List.map_append, h4]; rfl
      have ih := rLower_loop n s hs m (i + 1) (v + 1) hi (by omega)
      rw [hl, show (((i + 1 : Nat) : Int)) = (i : Int) + 1 by omega] at ih
      have hb := byteAt_lo s i hi
      have hk : ∀ x, x = lowI (byteAt s i) → g_newelref01_Lower.k76 n (((bytesI s).take i).map lowI) v (i : Int) (g_newelref01_Lower.l61 n s m) x = some (lowerOf s) := fun x hx => by
        rw [low_k76 _ _ _ _ _ _ (by rw [List.length_map, List.length_take]; omega) (by omega) (by omega), hx]
        exact ih
      rw [decide_eq_true hi, cond_true, chk_at hi, Int.toNat_natCast]
      by_cases h65 : byteAt s i ≥ 65
      · rw [decide_eq_true h65, cond_true]
        unfold g_newelref01_Lower.k81
        by_cases h90 : byteAt s i ≤ 90
        · rw [decide_eq_true h90, cond_true]
          refine hk _ ?_
          rw [Int.toNat_natCast]
          unfold lowI
          rw [if_pos ⟨h65, h90⟩, u8wrap (by omega) (by omega)]
        · rw [decide_eq_false h90, cond_false]
          refine hk _ ?_
          rw [Int.toNat_natCast]
          unfold lowI
          rw [if_neg (fun c => h90 c.2)]
      · rw [decide_eq_false h65, cond_false]
        unfold g_newelref01_Lower.k81
        rw [cond_false]
        refine hk _ ?_
        rw [Int.toNat_natCast]
        unfold lowI
        rw [if_neg (fun c => h65 c.1)]
    · rw [decide_eq_false hi, cond_false]
      have : i = s.size := by omega
      subst this
      unfold g_newelref01_Lower.k61
      have : (bytesI s).take s.size = bytesI s := List.take_of_length_le (by rw [bytesI, List.length_map, str_len]; exact Nat.le_refl _)
      rw [this]
      exact congrArg some (lower_back s)
theorem rLower_eq (n : Nat) (s : Str) (hs : s.size ≤ 4194303) (hn : s.size < n) : g_newelref01_Lower n s = some (lowerOf s) :=
  rLower_loop n s hs n 0 0 (Nat.zero_le _) (by omega)

/-! ### parts -/
theorem rDigit_eq (n : Nat) (c : Int) : g_newelref01_Digit n c = some (digitB c) := by
  unfold g_newelref01_Digit digitB
  by_cases h : c ≥ 48
  · rw [decide_eq_true h]; rfl
  · rw [decide_eq_false h]; rfl
theorem extract_one (s : Str) (i : Nat) (h : i < s.data.toList.length) : s.extract i (i + 1) = one s.data.toList[i] := by
  apply str_ext
  show (s.extract i (i + 1)).data.toList = [s.data.toList[i]]
  have h2 : i < s.data.size := by simpa using h
  simp only [ByteArray.data_extract, Array.toList_extract, List.extract_eq_take_drop, Nat.add_sub_cancel_left]
  rw [List.drop_eq_getElem_cons h]
  rfl
theorem lastU_at (s : Str) (h : s ≠ emp) : 0 < s.size ∧ byteAt s (s.size - 1) = ((lastU s).toNat : Int) := by
  have hp : 0 < s.data.toList.length := by
    cases e : s.data.toList with
    | nil => exact absurd (str_ext (a := s) (b := emp) e) h
    | cons _ _ => simp
  have hs := str_len s
  refine ⟨by omega, ?_⟩
  rw [byteAt_lt s _ (by omega)]
  unfold lastU
  rw [List.getLast?_eq_getElem?]
  have e : s.data.toList.length - 1 = s.size - 1 := by omega
  rw [e, List.getElem?_eq_getElem (by omega)]
  rfl
theorem allP_get (q : List Pt × Pt) : (allP q).getD q.1.length zPt = q.2 := by simp [allP]
theorem allP_set (q : List Pt × Pt) (p : Pt) : (allP q).set q.1.length p = allP (q.1, p) := by simp [allP]
theorem allP_snoc (q : List Pt × Pt) (p : Pt) : allP q ++ [p] = allP (q.1 ++ [q.2], p) := by simp [allP]
theorem allP_m1 (q : List Pt × Pt) : ((allP q).length : Int) - 1 = (q.1.length : Int) := by rw [allP_length]; omega

theorem rParts_k219 (n : Nat) (s : Str) (hs : s.size ≤ 4194304) (i : Nat) (hi : i < s.data.toList.length) (rec : List Pt → Nat → Int → Option (List Pt)) (q : List Pt × Pt) (v : Nat) (hq : q.1.length ≤ 8388608) (ht : q.2.text.size ≤ 8388608) :
    g_newelref05_parts.k219 n s (i : Int) rec (allP q) v = rec (allP (q.1, ⟨q.2.text ++ one s.data.toList[i], q.2.dash, q.2.number⟩)) v ((i : Int) + 1) := by
  have hs2 := str_len s
  unfold g_newelref05_parts.k219
  rw [allP_m1, chk_t (by unfold in64; omega), chk_t (by rw [allP_length]; omega), chk_t (by unfold in64; omega), chk_t (by omega)]
  rw [Int.toNat_natCast, Int.toNat_natCast, allP_get, show ((i : Int) + 1).toNat = i + 1 by omega, extract_one s i hi, chk_t (by show q.2.text.size + 1 ≤ _; omega), chk_t (by unfold in64; omega), allP_set]
theorem room_parts (l : List Pt) (h : l.length ≤ 16777216) : room l.length 24 := by unfold room; omega
theorem rParts_loop (n : Nat) (s : Str) (hs : s.size ≤ 4194303) : ∀ (m i v : Nat), i ≤ s.size → s.size < i + m → g_newelref05_parts.l166 n s m (allP (foldP (s.data.toList.take i))) v (i : Int) = some (partsOf s)
  | 0, i, v, h1, h => by omega
  | m + 1, i, v, h1, h => by
    have hs2 := str_len s
    unfold g_newelref05_parts.l166 g_newelref05_parts.l166b
    rw [decN]
    by_cases hi : i < s.size
    · have hi2 : i < s.data.toList.length := by omega
      have hstep := foldP_at s i hi2
      have hfl := foldP_length s.data.toList i
      have hft := foldP_text s.data.toList i
      have ih : ∀ v, g_newelref05_parts.l166 n s m (allP (stepP (foldP (s.data.toList.take i)) s.data.toList[i])) v ((i : Int) + 1) = some (partsOf s) := fun v => by
        have ih := rParts_loop n s hs m (i + 1) v hi (by omega)
        rwa [hstep, show (((i + 1 : Nat) : Int)) = (i : Int) + 1 by omega] at ih
      generalize foldP (s.data.toList.take i) = q at *
      generalize hb : s.data.toList[i] = b at *
      have hby : byteAt s i = (b.toNat : Int) := by rw [byteAt_lt s i hi2, hb]
      have h46 : (byteAt s i == 46) = (b == 46) := by
        rw [hby, Bool.eq_iff_iff, beq_iff_eq, beq_iff_eq, ← UInt8.toNat_inj]
        show _ ↔ b.toNat = 46
        omega
      have h45 : (byteAt s i == 45) = (b == 45) := by
        rw [hby, Bool.eq_iff_iff, beq_iff_eq, beq_iff_eq, ← UInt8.toNat_inj]
        show _ ↔ b.toNat = 45
        omega
      rw [decide_eq_true hi, cond_true, allP_m1, chk_t (by unfold in64; omega), chk_t (by rw [allP_length]; omega), chk_at hi, Int.toNat_natCast, chk_at hi, h46, h45]
      have hk : g_newelref05_parts.k191 n s (allP q) v (i : Int) (g_newelref05_parts.l166 n s m) (sepU b) = some (partsOf s) := by
        unfold g_newelref05_parts.k191
        cases hsep : sepU b with
        | true =>
          rw [cond_true, chk_at hi, Int.toNat_natCast, h45, allP_snoc, chk_t (room_parts _ (by rw [allP_length]; simp only [List.length_append, List.length_singleton]; omega)), chk_t (in64_nat (by omega))]
          have := ih (v + 1)
          unfold stepP at this
          rw [if_pos hsep] at this
          exact this
        | false =>
          have hns : ¬ sepU b = true := by rw [hsep]; exact Bool.false_ne_true
          rw [cond_false, allP_m1, Int.toNat_natCast, chk_t (by rw [allP_length]; omega), allP_get]
          have plain : ((!(q.2.text.toList == emp.toList)) && (digU b != digU (lastU q.2.text))) = false → g_newelref05_parts.k234 n s (allP q) v (i : Int) (g_newelref05_parts.l166 n s m) false = some (partsOf s) := fun hc => by
            unfold g_newelref05_parts.k234
            rw [cond_false, rParts_k219 n s (by omega) i hi2 _ q v (by omega) (by omega), hb]
            have := ih v
            unfold stepP at this
            rw [if_neg hns, if_neg (by rw [hc]; exact Bool.false_ne_true)] at this
            exact this
          cases he : (!(q.2.text.toList == emp.toList)) with
          | false => rw [cond_false]; exact plain (by rw [he]; rfl)
          | true =>
            have hne : q.2.text ≠ emp := fun e => by rw [e] at he; simp at he
            obtain ⟨g1, g2⟩ := lastU_at _ hne
            rw [cond_true, chk_t (by unfold in64; omega), chk_t (by omega), show (((q.2.text.size : Int) - 1).toNat) = q.2.text.size - 1 by omega, g2, rDigit_eq, Option.bind_some, chk_at hi, rDigit_eq, Option.bind_some, Int.toNat_natCast, hby, digU_B, digU_B]
            have hcomm : (!(digU (lastU q.2.text) == digU b)) = (digU b != digU (lastU q.2.text)) := by cases digU (lastU q.2.text) <;> cases digU b <;> rfl
            rw [hcomm]
            cases hd : (digU b != digU (lastU q.2.text)) with
            | false => exact plain (by rw [he, hd]; rfl)
            | true =>
              unfold g_newelref05_parts.k234
              rw [cond_true, chk_at hi, Int.toNat_natCast, hby, rDigit_eq, Option.bind_some, allP_m1, Int.toNat_natCast, chk_t (by rw [allP_length]; omega), allP_get, allP_set, allP_snoc, chk_t (room_parts _ (by rw [allP_length]; simp only [List.length_append, List.length_singleton]; omega))]
              rw [rParts_k219 n s (by omega) i hi2 _ _ _ (by simp only [List.length_append, List.length_singleton]; omega) (by show 0 ≤ _; omega), hb, emp_app, digU_B]
              have := ih (v + 1)
              unfold stepP at this
              rw [if_neg hns, if_pos (by rw [he, hd]; rfl)] at this
              exact this
      unfold sepU at hk
      cases h46b : (b == 46) with
      | true => rw [h46b, Bool.true_or] at hk; rw [cond_true]; exact hk
      | false => rw [h46b, Bool.false_or] at hk; rw [cond_false]; exact hk
    · rw [decide_eq_false hi, cond_false]
      unfold g_newelref05_parts.k166 partsOf
      rw [List.take_of_length_le (by omega)]
theorem rParts_eq (n : Nat) (s : Str) (hs : s.size ≤ 4194303) (hn : s.size < n) : g_newelref05_parts n s = some (partsOf s) :=
  rParts_loop n s hs n 0 0 (Nat.zero_le _) (by omega)

/-! ### a word -/
theorem trim0_cons (b : UInt8) (r : List UInt8) (h : b = 48) : trim0 ⟨(b :: r).toArray⟩ = trim0 ⟨r.toArray⟩ := by
  subst h
  apply str_ext
  simp [trim0, zerosL]
theorem trim0_stop (b : UInt8) (r : List UInt8) (h : b ≠ 48) : trim0 ⟨(b :: r).toArray⟩ = ⟨(b :: r).toArray⟩ := by
  apply str_ext
  simp [trim0, zerosL, h]
theorem str_mk (s : Str) : s = ⟨s.data.toList.toArray⟩ := str_ext (by simp)
theorem extract_tail (b : UInt8) (r : List UInt8) : (⟨(b :: r).toArray⟩ : Str).extract 1 (⟨(b :: r).toArray⟩ : Str).size = ⟨r.toArray⟩ := by
  apply str_ext
  have : (⟨(b :: r).toArray⟩ : Str).size = r.length + 1 := by rw [str_size]; simp
  rw [this]
  simp only [ByteArray.data_extract, Array.toList_extract, List.extract_eq_take_drop]
  simp
theorem rNumber_loop (n : Nat) (p : Pt) : ∀ (m : Nat) (l : List UInt8), l.length < m → g_newelref05_number.l12 n p m ⟨l.toArray⟩ = g_newelref05_number.k12 n p (trim0 ⟨l.toArray⟩)
  | 0, l, h => by omega
  | m + 1, l, h => by
    unfold g_newelref05_number.l12 g_newelref05_number.l12b
    have hsz : (⟨l.toArray⟩ : Str).size = l.length := by rw [str_size]
    cases l with
    | nil => rfl
    | cons b r =>
      have hlen : (b :: r).length = r.length + 1 := rfl
      have hby : byteAt (⟨(b :: r).toArray⟩ : Str) 0 = (b.toNat : Int) := byteAt_lt (⟨(b :: r).toArray⟩ : Str) 0 (by simp)
      rw [decide_eq_true (by rw [hsz]; omega), cond_true, chk_t (by rw [hsz]; omega), hby]
      by_cases h48 : b = 48
      · have : ((b.toNat : Int) == 48) = true := by subst h48; rfl
        rw [this, cond_true, chk_t (by rw [hsz]; omega), extract_tail, rNumber_loop n p m r (by omega), trim0_cons b r h48]
      · have : ((b.toNat : Int) == 48) = false := by
          rw [beq_eq_false_iff_ne]
          intro e
          exact h48 (UInt8.toNat_inj.1 (by show b.toNat = 48; omega))
        rw [this, cond_false, trim0_stop b r h48]
theorem rNumber_eq (n : Nat) (p : Pt) (h : p.text.size < n) : g_newelref05_number n p = some (if (trim0 p.text).toList == emp.toList then ⟨6, emp⟩ else if p.dash then ⟨9, trim0 p.text⟩ else ⟨10, trim0 p.text⟩) := by
  unfold g_newelref05_number
  have := rNumber_loop n p n p.text.data.toList (by rw [str_len]; exact h)
  rw [← str_mk] at this
  rw [this]
  unfold g_newelref05_number.k12
  cases (trim0 p.text).toList == emp.toList with
  | true => rfl
  | false => cases p.dash <;> rfl

theorem rLetters_eq (n : Nat) (p : Pt) : g_newelref05_word.k15 n p false = some (lettersOf p) := by
  obtain ⟨t, d, k⟩ := p
  by_cases h1 : t = sAlpha
  · subst h1; cases k <;> kernel_rfl
  by_cases h2 : t = sBeta
  · subst h2; cases k <;> kernel_rfl
  by_cases h3 : t = sMile
  · subst h3; cases k <;> kernel_rfl
  by_cases h4 : t = sRc
  · subst h4; cases k <;> kernel_rfl
  by_cases h5 : t = sCr
  · subst h5; cases k <;> kernel_rfl
  by_cases h6 : t = sSnap
  · subst h6; cases k <;> kernel_rfl
  by_cases h7 : t = sGa
  · subst h7; cases k <;> kernel_rfl
  by_cases h8 : t = sFinal
  · subst h8; cases k <;> kernel_rfl
  by_cases h9 : t = sRelease
  · subst h9; cases k <;> kernel_rfl
  by_cases h10 : t = sSp
  · subst h10; cases k <;> kernel_rfl
  by_cases h11 : t = sA
  · subst h11; cases k <;> kernel_rfl
  by_cases h12 : t = sB
  · subst h12; cases k <;> kernel_rfl
  by_cases h13 : t = sM
  · subst h13; cases k <;> kernel_rfl
  have f : ∀ x : Str, t ≠ x → (t.toList == x.toList) = false := fun x h => by rw [str_beq]; exact decide_eq_false h
  have e1 := f _ h1
  have e2 := f _ h2
  have e3 := f _ h3
  have e4 := f _ h4
  have e5 := f _ h5
  have e6 := f _ h6
  have e7 := f _ h7
  have e8 := f _ h8
  have e9 := f _ h9
  have e10 := f _ h10
  have e11 := f _ h11
  have e12 := f _ h12
  have e13 := f _ h13
  have hl : longS ⟨t, d, k⟩ = t := by
    unfold longS
    cases k with
    | false => rfl
    | true => simp only [e11, e12, e13]; rfl
  have hk : kindS t = none := by
    unfold kindS
    simp only [e1, e2, e3, e4, e5, e6, e7, e8, e9, e10]
    rfl
  unfold lettersOf
  rw [hl, hk]
  unfold sAlpha at e1; unfold sBeta at e2; unfold sMile at e3; unfold sRc at e4; unfold sCr at e5; unfold sSnap at e6; unfold sGa at e7; unfold sFinal at e8; unfold sRelease at e9; unfold sSp at e10; unfold sA at e11; unfold sB at e12; unfold sM at e13
  unfold g_newelref05_word.k15 g_newelref05_word.k53 g_newelref05_word.k59 g_newelref05_word.k36 g_newelref05_word.k42
  rw [cond_false, e1, cond_false, e2, cond_false, e3, cond_false, e4, cond_false, e5, cond_false, e6, cond_false, e7, cond_false, e8, cond_false, e9, cond_false, e10, cond_false]
  cases k with
  | false => rfl
  | true =>
    rw [cond_true, e11, cond_false, e12, cond_false, e13, cond_false]
    rfl
theorem rWord_eq (n : Nat) (p : Pt) (h : p.text.size < n) : g_newelref05_word n p = some (wordOf p) := by
  have k15t : g_newelref05_word.k15 n p true = some (if (trim0 p.text).toList == emp.toList then ⟨6, emp⟩ else if p.dash then ⟨9, trim0 p.text⟩ else ⟨10, trim0 p.text⟩) := by
    unfold g_newelref05_word.k15
    rw [cond_true, rNumber_eq n p h]; rfl
  unfold g_newelref05_word
  have ew : wordOf p = if !(p.text.toList == emp.toList) && !digitB (byteAt p.text 0) then lettersOf p else if (trim0 p.text).toList == emp.toList then ⟨6, emp⟩ else if p.dash then ⟨9, trim0 p.text⟩ else ⟨10, trim0 p.text⟩ := rfl
  rw [ew]
  cases he : p.text.toList == emp.toList with
  | true => rw [cond_true, k15t]; rfl
  | false =>
    have hp : 0 < p.text.size := size_pos (by rw [he]; rfl)
    rw [cond_false, chk_t (by omega), rDigit_eq, Option.bind_some]
    cases hd : digitB (byteAt p.text 0) with
    | true => rw [k15t]; rfl
    | false => rw [rLetters_eq]; rfl

/-! ### all words -/
theorem rev_last (out : List Wd) (h : 0 < out.length) : out.reverse.getD 0 zWd = lastW out := by
  unfold lastW
  rw [List.getD_eq_getElem?_getD, List.getD_eq_getElem?_getD, List.getElem?_reverse h]
  rfl
theorem rSplit_loop (n : Nat) (l : List Pt) (hl : l.length ≤ 4194304) (ht : ∀ p ∈ l, p.text.size < n) : ∀ (m j : Nat), j ≤ l.length → j < m → g_newelref05_Split.l63 n l m (splitRev (l.drop j)).reverse ((j : Int) - 1) = some (splitRev l).reverse
  | 0, j, h1, h => by omega
  | m + 1, j, h1, h => by
    unfold g_newelref05_Split.l63 g_newelref05_Split.l63b
    cases j with
    | zero => rfl
    | succ j =>
      have hj : j < l.length := by omega
      have hstep := splitRev_at l j hj
      have ih := rSplit_loop n l hl ht m j (by omega) (by omega)
      rw [hstep] at ih
      have hb := splitRev_length (l.drop (j + 1))
      rw [List.length_drop] at hb
      generalize splitRev (l.drop (j + 1)) = out at *
      have e0 : ((j + 1 : Nat) : Int) - 1 = (j : Int) := by omega
      have hg : l.getD (j : Int).toNat zPt = l[j] := by rw [Int.toNat_natCast, List.getD_eq_getElem?_getD, List.getElem?_eq_getElem hj]; rfl
      rw [e0, decide_eq_true (by omega), cond_true, chk_at hj, hg, rWord_eq n _ (ht _ (List.getElem_mem hj)), Option.bind_some]
      have hk : ∀ x, x = (decide ((out.length : Int) > 0) && ((lastW out).kind == 6 || (lastW out).kind == 10)) → g_newelref05_Split.k76 n out.reverse (j : Int) (g_newelref05_Split.l63 n l m) (wordOf l[j]) x = some (splitRev l).reverse := fun x hx => by
        unfold g_newelref05_Split.k76
        have h79 : splitStep out l[j] = out ++ [wordOf l[j]] → g_newelref05_Split.k79 n out.reverse (j : Int) (g_newelref05_Split.l63 n l m) (wordOf l[j]) = some (splitRev l).reverse := fun e => by
          unfold g_newelref05_Split.k79
          rw [chk_t (by unfold room; simp only [List.length_append, List.length_singleton, List.length_reverse]; omega), chk_t (by unfold in64; omega)]
          rw [e, List.reverse_append] at ih
          exact ih
        cases h6 : (wordOf l[j]).kind == 6 with
        | false =>
          rw [cond_false]
          refine h79 ?_
          unfold splitStep keepB
          have : ((wordOf l[j]).kind != 6) = true := by unfold bne; rw [h6]; rfl
          rw [this]; rfl
        | true =>
          have h7 : ((wordOf l[j]).kind != 6) = false := by unfold bne; rw [h6]; rfl
          rw [cond_true]
          cases x with
          | false =>
            rw [Bool.not_false, cond_true, chk_t (by unfold in64; omega)]
            have : splitStep out l[j] = out := by
              unfold splitStep keepB
              rw [h7, ← hx]; rfl
            rw [this] at ih
            exact ih
          | true =>
            rw [Bool.not_true, cond_false]
            refine h79 ?_
            unfold splitStep keepB
            rw [h7, ← hx]; rfl
      rw [List.length_reverse]
      by_cases h0 : (out.length : Int) > 0
      · have hp : 0 < out.length := by omega
        rw [decide_eq_true h0, cond_true, chk_t (by omega), rev_last out hp, chk_t (by omega)]
        rw [decide_eq_true h0, Bool.true_and] at hk
        cases h6 : (lastW out).kind == 6 with
        | true => rw [h6, Bool.true_or] at hk; rw [cond_true]; exact hk _ rfl
        | false => rw [h6, Bool.false_or] at hk; rw [cond_false]; exact hk _ rfl
      · rw [decide_eq_false h0, cond_false]
        rw [decide_eq_false h0, Bool.false_and] at hk
        exact hk _ rfl
theorem partsOf_small (s : Str) (hs : s.size ≤ 4194303) (p : Pt) (hp : p ∈ partsOf s) : p.text.size ≤ s.size := by
  have key : ∀ (l : List UInt8) (q : List Pt × Pt) (b : Nat), (∀ p ∈ allP q, p.text.size ≤ b) → ∀ p ∈ allP (l.foldl stepP q), p.text.size ≤ b + l.length := by
    intro l
    induction l with
    | nil => intro q b h p hp; exact Nat.le_trans (h p hp) (by simp)
    | cons x r ih =>
      intro q b h p hp
      have := ih (stepP q x) (b + 1) (fun p hp => by
        have h1 : ∀ p ∈ q.1, p.text.size ≤ b := fun p hp => h p (by simp [allP, hp])
        have h2 : q.2.text.size ≤ b := h q.2 (by simp [allP])
        unfold stepP at hp
        split at hp
        · simp only [allP, List.mem_append, List.mem_singleton] at hp
          rcases hp with (hp | rfl) | rfl
          · have := h1 p hp; omega
          · omega
          · show 0 ≤ _; omega
        · split at hp
          · simp only [allP, List.mem_append, List.mem_singleton] at hp
            rcases hp with (hp | rfl) | rfl
            · have := h1 p hp; omega
            · show q.2.text.size ≤ _; omega
            · show 1 ≤ _; omega
          · simp only [allP, List.mem_append, List.mem_singleton] at hp
            rcases hp with hp | rfl
            · have := h1 p hp; omega
            · show (q.2.text ++ one x).size ≤ _
              rw [app_size]; show _ + 1 ≤ _; omega) p hp
      simp only [List.length_cons]
      omega
  have := key s.data.toList ([], zPt) 0 (fun p hp => by
    simp only [allP, List.nil_append, List.mem_singleton] at hp
    subst hp; exact Nat.le_refl 0) p hp
  rw [str_len] at this
  omega
theorem rSplit_eq (n : Nat) (s : Str) (hs : s.size ≤ 4194303) (hn : s.size + 2 < n) : g_newelref05_Split n s = some (splitOf s) := by
  have hz := lowerOf_size s
  have hlen := partsOf_length (lowerOf s)
  unfold g_newelref05_Split
  rw [rLower_eq n s hs (by omega), Option.bind_some, rParts_eq n _ (by omega) (by omega), Option.bind_some, chk_t (by unfold in64; omega)]
  have := rSplit_loop n (partsOf (lowerOf s)) (by omega) (fun p hp => by have := partsOf_small (lowerOf s) (by omega) p hp; omega) n (partsOf (lowerOf s)).length (Nat.le_refl _) (by omega)
  rw [List.drop_length] at this
  exact this

/-! ### two words, two lists of them -/
theorem rText_eq (n : Nat) (a b : Str) : g_newelref05_text n a b = some (strCmp a b) := by
  unfold g_newelref05_text strCmp
  cases h1 : Op.bytesLess a.toList b.toList with
  | true => rfl
  | false => cases h2 : a.toList == b.toList with
    | true => rfl
    | false => rfl
theorem rOne_eq (n : Nat) (a b : Wd) : g_newelref05_one n a b = some (wordCmp a b) := by
  unfold g_newelref05_one wordCmp
  have hc := cmpI_spec a.kind b.kind
  by_cases h1 : a.kind < b.kind
  · have e : cmpI a.kind b.kind = -1 := by omega
    rw [decide_eq_true h1, cond_true, e]; rfl
  · rw [decide_eq_false h1, cond_false]
    by_cases h2 : a.kind > b.kind
    · have e : cmpI a.kind b.kind = 1 := by omega
      rw [decide_eq_true h2, cond_true, e]; rfl
    · have e : cmpI a.kind b.kind = 0 := by omega
      rw [decide_eq_false h2, cond_false, if_neg (by omega)]
      have k7t : (a.kind = 9 ∨ a.kind = 10) → g_newelref05_one.k7 n a b true = some (orI [cmpI a.text.size b.text.size, strCmp a.text b.text]) := fun _ => by
        unfold g_newelref05_one.k7
        rw [cond_true]
        have hs := cmpI_spec (a.text.size : Int) (b.text.size : Int)
        simp only [orI]
        by_cases h3 : (a.text.size : Int) = (b.text.size : Int)
        · have e3 : cmpI (a.text.size : Int) (b.text.size : Int) = 0 := by omega
          rw [show ((a.text.size : Int) != (b.text.size : Int)) = false by rw [h3]; simp, cond_false, rText_eq, Option.bind_some, if_pos e3]
          by_cases h5 : strCmp a.text b.text = 0
          · rw [if_pos h5, h5]
          · rw [if_neg h5]
        · rw [show ((a.text.size : Int) != (b.text.size : Int)) = true by simpa using h3, cond_true]
          by_cases h4 : (a.text.size : Int) < (b.text.size : Int)
          · have e4 : cmpI (a.text.size : Int) (b.text.size : Int) = -1 := by omega
            rw [decide_eq_true h4, cond_true, if_neg (by omega), e4]
          · have e4 : cmpI (a.text.size : Int) (b.text.size : Int) = 1 := by omega
            rw [decide_eq_false h4, cond_false, if_neg (by omega), e4]
      by_cases h8 : a.kind = 8
      · rw [if_pos h8, h8, beq_self_eq_true, cond_true, rText_eq]; rfl
      · rw [if_neg h8, show (a.kind == 8) = false by simpa using h8, cond_false]
        by_cases h9 : a.kind = 9
        · rw [if_pos (.inl h9), show (a.kind == 9) = true by simpa using h9, cond_true, k7t (.inl h9)]
        · rw [show (a.kind == 9) = false by simpa using h9, cond_false]
          by_cases h10 : a.kind = 10
          · rw [if_pos (.inr h10), show (a.kind == 10) = true by simpa using h10, k7t (.inr h10)]
          · rw [if_neg (by omega), show (a.kind == 10) = false by simpa using h10]; rfl
theorem rWords_loop (n : Nat) (a b : List Wd) (ha : a.length ≤ 4194304) (hb : b.length ≤ 4194304) : ∀ (f m i : Nat), max a.length b.length ≤ i + m → i + m ≤ 4194304 → m < f → g_newelref05_Words.l48 n a b f (i : Int) = some (seqFrom a b m i)
  | 0, m, i, h1, h2, h => by omega
  | f + 1, m, i, h1, h2, h => by
    unfold g_newelref05_Words.l48 g_newelref05_Words.l48b
    rw [decN, decN]
    have hk : (i < a.length ∨ i < b.length) → g_newelref05_Words.k52 n a b (i : Int) (g_newelref05_Words.l48 n a b f) = some (seqFrom a b m i) := fun hor => by
      have hm : 0 < m := by omega
      obtain ⟨m', rfl⟩ : ∃ m', m = m' + 1 := ⟨m - 1, by omega⟩
      have ih := rWords_loop n a b ha hb f m' (i + 1) (by omega) (by omega) (by omega)
      have hk62 : ∀ x y : Wd, x = atW a i → y = atW b i → g_newelref05_Words.k62 n (i : Int) (g_newelref05_Words.l48 n a b f) x.kind x.text y.kind y.text = some (seqFrom a b (m' + 1) i) := fun x y hx hy => by
        unfold g_newelref05_Words.k62
        show (g_newelref05_one n x y).bind _ = _
        rw [rOne_eq, Option.bind_some, hx, hy]
        unfold seqFrom
        by_cases hz : wordCmp (atW a i) (atW b i) = 0
        · rw [hz]
          rw [show ((0 : Int) != 0) = false from rfl, cond_false, chk_t (in64_nat (by omega)), if_neg (by omega), show (i : Int) + 1 = ((i + 1 : Nat) : Int) by omega]
          exact ih
        · rw [show (wordCmp (atW a i) (atW b i) != 0) = true by simpa using hz, cond_true, if_pos hz]
      have hk57 : ∀ x : Wd, x = atW a i → g_newelref05_Words.k57 n b (i : Int) (g_newelref05_Words.l48 n a b f) x.kind x.text = some (seqFrom a b (m' + 1) i) := fun x hx => by
        unfold g_newelref05_Words.k57
        rw [decN]
        by_cases h3 : i < b.length
        · rw [decide_eq_true h3, cond_true, chk_at h3, Int.toNat_natCast]
          exact hk62 x (b.getD i zWd) hx (by unfold atW; rw [List.getD_eq_getElem?_getD, List.getD_eq_getElem?_getD, List.getElem?_eq_getElem h3]; rfl)
        · rw [decide_eq_false h3, cond_false]
          exact hk62 x nothing hx (atW_ge (by omega)).symm
      unfold g_newelref05_Words.k52
      rw [decN]
      by_cases h3 : i < a.length
      · rw [decide_eq_true h3, cond_true, chk_at h3, Int.toNat_natCast]
        exact hk57 (a.getD i zWd) (by unfold atW; rw [List.getD_eq_getElem?_getD, List.getD_eq_getElem?_getD, List.getElem?_eq_getElem h3]; rfl)
      · rw [decide_eq_false h3, cond_false]
        exact hk57 nothing (atW_ge (by omega)).symm
    by_cases h1 : i < a.length
    · rw [decide_eq_true h1, cond_true]; exact hk (.inl h1)
    · rw [decide_eq_false h1, cond_false]
      by_cases h2 : i < b.length
      · rw [decide_eq_true h2, cond_true]; exact hk (.inr h2)
      · rw [decide_eq_false h2, cond_false, seq_nothing a b m i (by omega) (by omega)]
        rfl
theorem rWords_eq (n : Nat) (a b : List Wd) (ha : a.length ≤ 4194304) (hb : b.length ≤ 4194304) (hn : max a.length b.length < n) : g_newelref05_Words n a b = some (wordsCmp a b) := by
  unfold g_newelref05_Words
  have := rWords_loop n a b ha hb n (max a.length b.length) 0 (by omega) (by omega) hn
  rw [show (0 : Int) = ((0 : Nat) : Int) from rfl, this, wordsCmp_seq a b _ (Nat.le_max_left _ _) (Nat.le_max_right _ _)]
theorem rCompare_eq (n : Nat) (a b : Str) (ha : a.size ≤ 4194302) (hb : b.size ≤ 4194302) (h1 : a.size + 2 < n) (h2 : b.size + 2 < n) : g_newelref05_Compare n a b = some (cmpV a b) := by
  have l1 := splitOf_length a
  have l2 := splitOf_length b
  unfold g_newelref05_Compare
  rw [rSplit_eq n a (by omega) h1, Option.bind_some, rSplit_eq n b (by omega) h2, Option.bind_some, rWords_eq n _ _ (by omega) (by omega) (by omega)]
  rfl
theorem strCmp_less (a b : Str) : Op.bytesLess a.toList b.toList = decide (strCmp a b < 0) := by
  unfold strCmp
  cases h1 : Op.bytesLess a.toList b.toList with
  | true => rfl
  | false => cases h2 : a.toList == b.toList with
    | true => rfl
    | false => rfl
theorem rBefore_eq (n : Nat) (a b : Str) (ha : a.size ≤ 4194302) (hb : b.size ≤ 4194302) (h1 : a.size + 2 < n) (h2 : b.size + 2 < n) : g_newelref05_before n a b = some (decide (wholeC a b < 0)) := by
  unfold g_newelref05_before wholeC
  rw [rCompare_eq n a b ha hb h1 h2, Option.bind_some]
  by_cases c : cmpV a b < 0
  · rw [decide_eq_true c, cond_true, if_pos (by omega), decide_eq_true c]
  · rw [decide_eq_false c, cond_false]
    by_cases c2 : cmpV a b = 0
    · rw [c2, beq_self_eq_true, cond_true, if_neg (by omega), strCmp_less]
    · rw [show (cmpV a b == 0) = false by simpa using c2, cond_false, if_pos c2, decide_eq_false c]

/-! ### put in at its place -/
theorem ins_pair {α : Type} {c : α → α → Int} (h : TotPre c) (out : List α) (x : α) (k : Nat) (hk : k ≤ out.length) (hs : out.Pairwise fun a b => c a b ≤ 0)
    (h1 : ∀ j (hj : j < out.length), k ≤ j → c x out[j] ≤ 0) (h2 : ∀ j (hj : j < out.length), j < k → c out[j] x ≤ 0) : (out.take k ++ [x] ++ out.drop k).Pairwise fun a b => c a b ≤ 0 := by
  rw [List.append_assoc, List.pairwise_append]
  refine ⟨hs.sublist (List.take_sublist _ _), ?_, ?_⟩
  · rw [List.singleton_append, List.pairwise_cons]
    refine ⟨fun y hy => ?_, hs.sublist (List.drop_sublist _ _)⟩
    obtain ⟨j, hj, rfl⟩ := List.getElem_of_mem hy
    rw [List.getElem_drop]
    exact h1 _ _ (by omega)
  · intro y hy z hz
    rw [List.singleton_append] at hz
    obtain ⟨j, hj, rfl⟩ := List.getElem_of_mem hy
    rw [List.length_take] at hj
    rw [List.getElem_take]
    have hjx := h2 j (by omega) (by omega)
    rcases List.mem_cons.1 hz with rfl | hz
    · exact hjx
    · obtain ⟨i, hi, rfl⟩ := List.getElem_of_mem hz
      rw [List.length_drop] at hi
      rw [List.getElem_drop]
      exact h.trans _ x _ hjx (h1 _ _ (by omega))
theorem ins_perm {α : Type} (out : List α) (x : α) (k : Nat) : (out.take k ++ [x] ++ out.drop k).Perm (out ++ [x]) := by
  have e : out ++ [x] = out.take k ++ (out.drop k ++ [x]) := by rw [← List.append_assoc, List.take_append_drop]
  rw [e, List.append_assoc]
  exact List.Perm.append_left _ List.perm_append_comm
/-- the place, looked for from the end on -/
theorem ins_place {α : Type} {c : α → α → Int} (h : TotPre c) (out : List α) (x : α) (k : Nat) (hk : k < out.length) (hs : out.Pairwise fun a b => c a b ≤ 0) (hx : ¬ c x out[k] < 0) : ∀ j (hj : j < out.length), j < k + 1 → c out[j] x ≤ 0 := fun j hj hjk => by
  have h1 : c out[k] x ≤ 0 := by have := h.anti x out[k]; omega
  by_cases e : j = k
  · subst e; exact h1
  · exact h.trans _ _ _ (List.pairwise_iff_getElem.1 hs j k hj hk (by omega)) h1

theorem rSort_in (n : Nat) (l : List Str) (out : List Str) (i : Nat) (rec : List Str → Int → Option (List Str)) (r : Option (List Str)) (hi : i < l.length) (hll : l.length ≤ 4194304) (hlo : out.length ≤ 4194304)
    (hsl : ∀ x ∈ l, x.size ≤ 4194302 ∧ x.size + 2 < n) (hso : ∀ x ∈ out, x.size ≤ 4194302 ∧ x.size + 2 < n) (hs : out.Pairwise fun a b => wholeC a b ≤ 0)
    (hr : ∀ o : List Str, (o.Pairwise fun a b => wholeC a b ≤ 0) → o.Perm (out ++ [l[i]]) → rec o ((i : Int) + 1) = r) :
    ∀ (m k : Nat), k < m → k ≤ out.length → (∀ j (hj : j < out.length), k ≤ j → wholeC l[i] out[j] ≤ 0) → g_newelref05_Sort.l117 n l out (i : Int) rec m (k : Int) = r
  | 0, k, h, _, _ => by omega
  | m + 1, k, h, hk, h1 => by
    unfold g_newelref05_Sort.l117 g_newelref05_Sort.l117b
    have hg : l.getD (i : Int).toNat emp = l[i] := by simp [hi]
    have k117 : (∀ j (hj : j < out.length), j < k → wholeC out[j] l[i] ≤ 0) → g_newelref05_Sort.k117 n l out (i : Int) rec (k : Int) = r := fun h2 => by
      unfold g_newelref05_Sort.k117
      have hlen : (out.take k ++ [l[i]] ++ out.drop k).length = out.length + 1 := by
        rw [(ins_perm out l[i] k).length_eq]; simp
      rw [chk_t ⟨by omega, by omega⟩, Int.toNat_natCast, chk_t (by unfold room; rw [List.length_take]; omega), chk_at hi, hg, chk_t (by unfold room; simp only [List.length_append, List.length_take, List.length_singleton]; omega), chk_t ⟨by omega, by omega⟩, chk_t (by unfold room; rw [hlen]; omega), chk_t (in64_nat (by omega))]
      exact hr _ (ins_pair totC out l[i] k hk hs h1 h2) (ins_perm _ _ _)
    cases k with
    | zero => exact k117 (fun j hj h0 => by omega)
    | succ k =>
      have hk' : k < out.length := by omega
      have e : ((k + 1 : Nat) : Int) - 1 = (k : Int) := by omega
      have hg2 : out.getD (k : Int).toNat emp = out[k] := by simp [hk']
      have s1 := hsl _ (List.getElem_mem hi)
      have s2 := hso _ (List.getElem_mem hk')
      rw [decide_eq_true (by omega), cond_true, chk_at hi, chk_t (by unfold in64; omega), e, chk_at hk', hg, hg2, rBefore_eq n _ _ s1.1 s2.1 s1.2 s2.2, Option.bind_some]
      by_cases hx : wholeC l[i] out[k] < 0
      · rw [decide_eq_true hx, cond_true, chk_t (by unfold in64; omega)]
        refine rSort_in n l out i rec r hi hll hlo hsl hso hs hr m k (by omega) (by omega) (fun j hj hjk => ?_)
        by_cases ej : j = k
        · subst ej; omega
        · exact h1 j hj (by omega)
      · rw [decide_eq_false hx, cond_false]
        exact k117 (ins_place totC out l[i] k hk' hs hx)
theorem rSort_loop (n : Nat) (l : List Str) (hll : l.length ≤ 4194303) (hn : l.length + 1 < n) (hsl : ∀ x ∈ l, x.size ≤ 4194302 ∧ x.size + 2 < n) : ∀ (m i : Nat) (out : List Str), i ≤ l.length → l.length < i + m → (out.Pairwise fun a b => wholeC a b ≤ 0) → out.Perm (l.take i) →
    g_newelref05_Sort.l94 n l m out (i : Int) = some (sortV l)
  | 0, i, out, h1, h, _, _ => by omega
  | m + 1, i, out, h1, h, hs, hp => by
    unfold g_newelref05_Sort.l94 g_newelref05_Sort.l94b
    rw [decN]
    by_cases hi : i < l.length
    · have hlen := hp.length_eq
      rw [List.length_take] at hlen
      rw [decide_eq_true hi, cond_true]
      refine rSort_in n l out i _ _ hi (by omega) (by omega) hsl (fun x hx => hsl x (List.mem_of_mem_take (hp.mem_iff.1 hx))) hs (fun o ho hop => ?_) n out.length (by omega) (Nat.le_refl _) (fun j hj hjk => by omega)
      rw [show (i : Int) + 1 = ((i + 1 : Nat) : Int) by omega]
      refine rSort_loop n l hll hn hsl m (i + 1) o hi (by omega) ho ?_
      rw [List.take_succ_eq_append_getElem hi]
      exact hop.trans (hp.append_right _)
    · rw [decide_eq_false hi, cond_false]
      have : i = l.length := by omega
      subst this
      rw [List.take_length] at hp
      unfold g_newelref05_Sort.k94
      exact congrArg some (List.Perm.eq_of_pairwise (fun x y _ _ h1 h2 => wholeC_zero (by have := totC.anti x y; omega)) hs (sortV_pair l) (hp.trans (sortV_perm l).symm))
theorem rSort_eq (n : Nat) (l : List Str) (hll : l.length ≤ 4194303) (hn : l.length + 1 < n) (hsl : ∀ x ∈ l, x.size ≤ 4194302 ∧ x.size + 2 < n) : g_newelref05_Sort n l = some (sortV l) :=
  rSort_loop n l hll hn hsl n 0 [] (Nat.zero_le _) (by omega) List.Pairwise.nil (List.Perm.refl _)
end Go.Proofs.Nw.K
end
section
/- K30: lists with known room behind them. -/
open Go Go.RowKit
set_option linter.unusedVariables false
set_option linter.unusedSimpArgs false
namespace Go.Proofs.Nw.K

theorem DLe.spl {sz n : Nat} {xs : List (List D)} : DLe (.one (.sp sz xs n)) (.one (.list sz (xs.take n))) := fun σ v h => by
  have h : Rep σ v (.sp sz xs n) := h
  show Rep σ v (.list sz (xs.take n))
  cases h with
  | @sp b off _ c _ _ val hn h0 hc hm hsz hcell hval =>
    have hl : (xs.take n).length = n := by rw [List.length_take]; omega
    by_cases hz : n = 0
    · subst hz
      exact .nil hm
    · refine .list val hl.symm (by omega) (by omega) hm (fun i x hx => hsz i x (by rw [List.getElem?_take] at hx; split at hx; exact hx; cases hx)) (fun i j hi hj => hcell i j (by omega) hj) (fun i j x d hx hd => hval i j x d (by rw [List.getElem?_take] at hx; split at hx; exact hx; cases hx) hd)
theorem DLe.sptl {α : Type} {sz n : Nat} {enc : α → List D} (z : α) {xs : List (List D)} {l : List α} (e : xs.take n = l.map enc) : DLe (.one (.sp sz xs n)) (.one (.tl α sz enc z l)) :=
  DLe.spl.trans (DLe.tl z e)

/-- a row of one's own, of which a handle shows the first ones, is given out: the others are the room behind -/
theorem Sub.shutSp {N : Fm} {env : Env} {st : List AO} (t : Nat) (s k n e sz : Nat) (xs : List (List D)) (h : env t = .h s k 0 n) (hst : st[s]? = some (.row k e sz xs)) (hn : n ≤ xs.length) (h0 : 0 < xs.length) : Sub N env st (upd env t (.d (.sp sz xs n))) (st.set s .gone) :=
  Sub.slot t _ fun w0 σ0 σ gh w u hb hu => by
    rw [h] at hu
    obtain ⟨g, hg, hR, A, c, hv⟩ := h_val hb hst hu
    obtain ⟨σ', hf, hrep⟩ := seal_row hb hst hg
    refine ⟨σ', gh, hf, ?_⟩
    show Rep σ' u (.sp sz xs n)
    cases hrep with
    | nil _ => simp at h0
    | @list b off m c' _ _ val hm h0' hc hmx hsz hcell hval =>
      subst hm
      obtain ⟨h0'', ⟨a1, a2, a3⟩ | ⟨b2, m2, c2, a1, a2, ⟨a3, a4, _⟩ | a3⟩⟩ := hR
      · rw [a3, a2]
        exact .sp val (by omega) h0 (by omega) hmx hsz hcell hval
      · omega
      · cases a1
        rw [a3, Nat.zero_mul]
        exact .sp val hn h0 (by omega) hmx hsz hcell hval

section
variable {P : Program} {E : Operand → AV} {st : List AO}

theorem op_slice_sp (t e : TypeId) (sz : Nat) (x : Operand) (hi : Operand) (h n : Nat) (xs : List (List D)) (ht : elT P t = some (e, sz)) (hx : E x = .d (.sp sz xs n))
    (hh : E hi = .int h) (h2 : h ≤ xs.length) : OpS P (.slice t x none (some hi) none) E st (.list sz (xs.take h)) st :=
  op_pure fun o ho w0 σ0 σ gh ρ w hb hρ => by
    have h3 := hρ x (by simp [Op.operands])
    rw [hx] at h3
    have h4 := hρ hi (by simp [Op.operands])
    rw [hh] at h4
    have h4 := RepA_sc h4
    obtain ⟨hu, i, hi', hs⟩ := elT_spec ht
    have h3 : Rep σ (ρ x) (.sp sz xs n) := h3
    have hle : ∀ v, Rep σ v (.sp sz xs h) → Rep σ v (.list sz (xs.take h)) := fun v hv => DLe.spl σ v hv
    generalize hrx : ρ x = v at h3
    cases h3 with
    | @sp b off _ c _ _ val hn h0 hc hm hsz hcell hval =>
      have hrun := run_sliceAt (P := P) (ρ := ρ) (w := w) hu sz (by simp [sizeOf, typeInfo, hi', hs]) (some ⟨b, off, none⟩) n c none (some hi) 0 h rfl ⟨h, h4, by omega, by simp⟩ (Nat.zero_le _) (by omega)
      refine ⟨.slice (some ⟨b, off, none⟩) h c, ?_, hle _ (.sp val h2 h0 hc hm hsz hcell hval)⟩
      simp only [execOp, ho, hrx]
      simp only [Option.map] at hrun ⊢
      simp [hrun, Addr.add]

theorem op_cap_sp (t : TypeId) (x : Operand) (sz n e : Nat) (xs : List (List D)) (hu : P.underlying t = some (.slice e)) (hx : E x = .d (.sp sz xs n)) {V : AV → List AO → Prop} (hV : ∀ c : Nat, xs.length ≤ c → c ≤ maxLen → V (.int c) st) :
    OpN P (.call { callee := .builtin .cap, args := #[x], argTypes := #[t] }) E st V := by
  intro o ho w0 σ0 σ gh ρ w hb hρ
  have h3 := hρ x (by simp [Op.operands, Call.operands])
  rw [hx] at h3
  have h3 : Rep σ (ρ x) (.sp sz xs n) := h3
  generalize hrx : ρ x = v at h3
  cases h3 with
  | @sp b off _ c _ _ val hn h0 hc hm hsz hcell hval =>
    refine ⟨.int c, st, hV c hc hm, ?_⟩
    have hrun : (execOp ρ o).run P w = .ok (.value (.int .i64 c)) w := by
      simp [execOp, ho, resolve, invoke, builtin, hrx, Builtin.cap_, run_underlying hu, goInt, Result.andThen]
    rw [hrun]
    exact ⟨σ, gh, .refl hb, RepA_of_sc rfl⟩

/-- beyond what a handle shows, within its row -/
theorem op_slice_hm (t e : TypeId) (sz : Nat) (x hi : Operand) (h s k n e' : Nat) (xs : List (List D)) (ht : elT P t = some (e, sz)) (hx : E x = .h s k 0 n) (hst : st[s]? = some (.row k e' sz xs))
    (hh : E hi = .int h) (h0 : 0 < xs.length) (h2 : h ≤ xs.length) : OpS P (.slice t x none (some hi) none) E st (.h s k 0 h) st :=
  op_pure fun o ho w0 σ0 σ gh ρ w hb hρ => by
    have h3 := hρ x (by simp [Op.operands])
    rw [hx] at h3
    have h4 := hρ hi (by simp [Op.operands])
    rw [hh] at h4
    have h4 := RepA_sc h4
    obtain ⟨hu, i, hi', hs⟩ := elT_spec ht
    obtain ⟨g, hg, hR, A, c, hv⟩ := h_val hb hst h3
    obtain ⟨vals, hown, _⟩ := hb.obj s _ _ hst hg
    rcases hown.2 with ⟨e1, e2⟩ | ⟨b, cap, cur, e1, e2, e3, e4, e5⟩
    · omega
    have hval : ρ x = .slice (some ⟨b, 0, none⟩) n cap := by
      obtain ⟨h0, ⟨a1, a2, a3⟩ | ⟨b2, m2, c2, a1, a2, ⟨a3, a4, _⟩ | a3⟩⟩ := hR
      · rw [a3, e1, a2]
      · omega
      · rw [e1] at a1; cases a1; rw [a3, Nat.zero_mul, Nat.sub_zero]
    have hrun := run_sliceAt (P := P) (ρ := ρ) (w := w) hu sz (by simp [sizeOf, typeInfo, hi', hs]) (some ⟨b, 0, none⟩) n cap none (some hi) 0 h rfl ⟨h, h4, by omega, by simp⟩ (Nat.zero_le _) (by omega)
    refine ⟨.slice (some ⟨b, 0, none⟩) h cap, ?_, g, _, hg, hst, fun k' e2 sz2 xs2 heq => ?_⟩
    · simp only [execOp, ho, hval]
      simp only [Option.map] at hrun ⊢
      simp [hrun, Addr.add]
    · cases heq
      exact ⟨Nat.le_refl _, fun _ => ⟨by omega, .inr ⟨b, xs.length, cap, e1, by omega, .inr (by rw [Nat.zero_mul, Nat.sub_zero])⟩⟩⟩

/-- a new row, nothing of which is shown yet -/
theorem op_makeSlice0 (t e : TypeId) (sz by_ : Nat) (l c : Operand) (N : Nat) (zs : List D) (ht : appT P t = some (e, sz, by_)) (hz : zeroD P e = some zs) (hl : E l = .int 0) (hc : E c = .int N) (hN : 0 < N) (hM : N ≤ maxLen) (hb1 : by_ * N ≤ 281474976710656) :
    OpS P (.makeSlice t l c) E st (.h st.length 0 0 0) (st ++ [.row 0 e sz (List.replicate N zs)]) := by
  intro o ho w0 σ0 σ gh ρ w hb hρ
  have h1 := RepA_sc (hl ▸ hρ l (by simp [Op.operands]) : RepA σ gh st (ρ l) (.int 0))
  have h2 := RepA_sc (hc ▸ hρ c (by simp [Op.operands]) : RepA σ gh st (ρ c) (.int N))
  obtain ⟨hu, i, z, hi, hiz, hsz, hby, hzs, hpos⟩ := appT_spec ht
  obtain ⟨i2, z2, hi2, hiz2, hrz⟩ := zeroD_spec hz
  rw [hi] at hi2; cases hi2
  rw [hiz] at hiz2; cases hiz2
  have hm : (N : Int) ≤ 9223372036854775807 := by simp only [maxLen] at hM; omega
  have hb2 : (i.bytes : Int) * (N : Int) ≤ 281474976710656 := by
    rw [hby]
    have : ((by_ * N : Nat) : Int) ≤ 281474976710656 := by omega
    rwa [Int.natCast_mul] at this
  have hr := run_make (P := P) w t e i z hu hi hiz .i64 .i64 0 N (Int.le_refl _) (by omega) hb2 hm
  simp only [Int.toNat_zero, Int.toNat_natCast, hsz] at hr
  have hrun : (execOp ρ o).run P w = .ok (.value (.slice (some ⟨w.heap.size, 0, none⟩) 0 N)) (w.alloc (.cells (madeCells z.cells (N * sz)) e)) := by
    simp [execOp, ho, h1, h2, hr, Result.andThen]
  rw [hrun]
  have hms : (madeCells z.cells (N * sz)).size = N * sz := size_madeCells _ _
  have hget : ∀ i j, i < N → j < sz → (madeCells z.cells (N * sz)).toList[i * sz + j]? = z.cells[j]? := fun i j hi hj => by
    have hlt : i * sz + j < N * sz := by
      calc i * sz + j < i * sz + sz := by omega
        _ = (i + 1) * sz := by rw [Nat.add_mul]; omega
        _ ≤ N * sz := Nat.mul_le_mul_right _ (by omega)
    have hmod : (i * sz + j) % sz = j := by rw [Nat.mul_comm, Nat.mul_add_mod, Nat.mod_eq_of_lt hj]
    have hj2 : j < z.cells.size := by omega
    simp only [madeCells, Array.getElem?_toList]
    simp [hlt, hzs, hmod, hj2]
    rw [getElem!_pos z.cells j hj2, Array.getElem?_eq_getElem hj2]
  have hzl : zs.length = sz := by have := (hrz σ).1; simp at this; omega
  have hrep : ∀ {i : Nat} {x : List D}, (List.replicate N zs)[i]? = some x → i < N ∧ zs = x := fun {i x} hx => by
    rw [List.getElem?_replicate] at hx
    split at hx
    · cases hx; exact ⟨by assumption, rfl⟩
    · cases hx
  have hf := hb.push (w' := w.alloc (.cells (madeCells z.cells (N * sz)) e)) (World.grownBy_alloc w _ none) (.slice (some ⟨w.heap.size, 0, none⟩) N N) (.row 0 e sz (List.replicate N zs)) (fun b h => by
      simp only [blkOf, Option.some.injEq] at h; subst h; simp)
    ⟨(madeCells z.cells (N * sz)).toList, by
      rw [List.length_replicate]
      exact ⟨by simpa using hms, .inr ⟨w.heap.size, N, _, rfl, hb.below.size, heap_alloc_new w _, Nat.le_refl _, hM, hms, List.take_of_length_le (by simp [hms])⟩⟩, fun i x hx => by
      obtain ⟨_, rfl⟩ := hrep hx
      exact hzl, fun i j x d hx hd => by
      obtain ⟨hiN, rfl⟩ := hrep hx
      have hj : j < sz := by rw [← hzl]; exact (List.getElem?_eq_some_iff.1 hd).1
      have hj2 : j < z.cells.size := by omega
      refine ⟨z.cells[j], by rw [hget i j hiN hj]; simp [hj2], (hrz σ).2 j _ d (by simp [hj2]) hd⟩, fun b hb' => by
      simp only [blkOf, Option.some.injEq] at hb'
      subst hb'
      exact hb.sl.fresh (Nat.le_refl _), fun v hv => ?_⟩
  · refine ⟨σ, _, hf, .slice (some ⟨w.heap.size, 0, none⟩) N N, _, by rw [← hb.len]; simp, by simp; rfl, fun k' e' sz' xs' heq => ?_⟩
    cases heq
    refine ⟨Nat.le_refl _, fun _ => ⟨by simp, .inr ⟨w.heap.size, N, N, rfl, by omega, .inr (by rw [Nat.zero_mul, Nat.sub_zero])⟩⟩⟩
  · simp only [madeCells, Array.toList_map, List.mem_map] at hv
    obtain ⟨q, _, rfl⟩ := hv
    have hq : q % z.cells.size < z.cells.size := Nat.mod_lt _ (by omega)
    rw [getElem!_pos z.cells _ hq]
    have hd : (z.cells.toList)[q % z.cells.size]? = some z.cells[q % z.cells.size] := by simp [hq]
    obtain ⟨d, hd2⟩ : ∃ d, zs[q % z.cells.size]? = some d := ⟨zs[q % z.cells.size]'(by omega), by simp⟩
    have := (hrz σ).2 _ _ d hd hd2
    exact this.one
end
end Go.Proofs.Nw.K
end
