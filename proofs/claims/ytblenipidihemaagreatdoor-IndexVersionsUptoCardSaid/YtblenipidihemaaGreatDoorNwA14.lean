/- Bundle 14: NwZP9, NwZL0, NwZL8, NwZL9, NwZL10. -/
import Derived.Test.YtblenipidihemaaGreatDoorNwA13
section
/- Printed by a program of mine (pg.py): functions that may have no answer, and that the code comes to them. -/
open Go Go.RowKit Go.Proofs
set_option linter.unusedVariables false
set_option linter.unusedSimpArgs false
set_option maxHeartbeats 1000000
namespace Go.Proofs.Nw.K

/-! ### newel/newelhelp.In[string] -/
def g_newelhelp_In_string.k14 (n : Nat) : Option (Bool) :=
  some false
def g_newelhelp_In_string.l14b (n : Nat) (a0 : (List Str)) (a1 : Str) (rec14 : Int → Option (Bool)) (x15 : Int) : Option (Bool) :=
  bif (decide (x15 < (a0.length : Int))) then (
    chk (0 ≤ x15 ∧ x15 < (a0.length : Int)) <|
    bif ((a0.getD x15.toNat emp).toList == a1.toList) then (
      some true
    ) else (
      chk (in64 (x15 + 1)) <|
      rec14 (x15 + 1)
    )
  ) else (
    g_newelhelp_In_string.k14 n
  )
def g_newelhelp_In_string.l14 (n : Nat) (a0 : (List Str)) (a1 : Str) : Nat → Int → Option (Bool)
  | 0, _ => none
  | m + 1, x15 => g_newelhelp_In_string.l14b n a0 a1 (g_newelhelp_In_string.l14 n a0 a1 m) x15
def g_newelhelp_In_string (n : Nat) (a0 : (List Str)) (a1 : Str) : Option (Bool) :=
  g_newelhelp_In_string.l14 n a0 a1 n 0
theorem g_newelhelp_In_string.ok (n : Nat) (a0 : (List Str)) (a1 : Str) (r : Bool) (h : g_newelhelp_In_string n a0 a1 = some r) : Impl Tryz.prog 7 [.one (.tl Str 1 encStr emp a0), .one (dstr a1)] [.one (dbool r)] := by
  refine impl_wp tabOk Tryz.func7 rfl rfl (by kernel_rfl) ?_
  unfold g_newelhelp_In_string at h
  refine WP_seq ?_
  refine vcc_sound _ _ _ tabOk (by exact rfl) ?_
  repeat (first | refine Ob.mk (by first | rfl | omega | assumption | exact ⟨rfl, rfl, (List.length_map _).symm⟩ | exact ⟨rfl, rfl, by rw [List.length_map]; omega⟩) ?_ | refine Br.t ?_ | refine Br.f ?_)
  refine WP_seq ?_
  refine WP_seq ?_
  refine vcc_sound _ _ _ tabOk (by exact rfl) ?_
  repeat (first | refine Ob.mk (by first | rfl | omega | assumption | exact ⟨rfl, rfl, (List.length_map _).symm⟩ | exact ⟨rfl, rfl, by rw [List.length_map]; omega⟩) ?_ | refine Br.t ?_ | refine Br.f ?_)
  refine WP_cutQ (α := {p : Unit // g_newelhelp_In_string.k14 n = some r}) (fun p => ofL []) (fun p => []) (WP_block (WP_loop (α := {x : Nat × Int // g_newelhelp_In_string.l14 n a0 a1 x.1 x.2 = some r}) (fun x => ofL [(0, .d (.tl Str 1 encStr emp a0)), (1, .str a1), (5, .int x.1.2)]) (fun x => []) (fun x => x.1.1) ⟨(n, 0), h⟩ (Sub.ofL _ _ (Nat.zero_le _) ⟨rfl, rfl, rfl, rfl, rfl, rfl, trivial⟩ rfl rfl) ?_)) ?_
  rotate_left
  · rintro ⟨⟨⟩, h⟩ env st hs
    replace h : g_newelhelp_In_string.k14 n = some r := h
    unfold g_newelhelp_In_string.k14 at h
    refine WP_sub hs ?_
    try dsimp only
    refine WP_seq ?_
    refine vcc_sound _ _ _ tabOk (by exact rfl) ?_
    repeat (first | refine Ob.mk (by first | rfl | omega | assumption | exact ⟨rfl, rfl, (List.length_map _).symm⟩ | exact ⟨rfl, rfl, by rw [List.length_map]; omega⟩) ?_ | refine Br.t ?_ | refine Br.f ?_)
    refine WP_ret ?_
    obtain rfl := Option.some.inj h
    repeat (first | refine Ob.mk (by first | rfl | omega | assumption | exact ⟨rfl, rfl, (List.length_map _).symm⟩ | exact ⟨rfl, rfl, by rw [List.length_map]; omega⟩) ?_ | refine Br.t ?_ | refine Br.f ?_)
    exact ⟨DLe.refl _, trivial⟩
  rintro ⟨⟨m14, x15⟩, h⟩
  cases m14 with
  | zero => exact nomatch (show (none : Option (Bool)) = some r from h)
  | succ m14 =>
    replace h : g_newelhelp_In_string.l14b n a0 a1 (g_newelhelp_In_string.l14 n a0 a1 m14) x15 = some r := h
    unfold g_newelhelp_In_string.l14b at h
    try dsimp only
    refine WP_seq ?_
    refine WP_seq ?_
    refine vcc_sound _ _ _ tabOk (by exact rfl) ?_
    repeat (first | refine Ob.mk (by first | rfl | omega | assumption | exact ⟨rfl, rfl, (List.length_map _).symm⟩ | exact ⟨rfl, rfl, by rw [List.length_map]; omega⟩) ?_ | refine Br.t ?_ | refine Br.f ?_)
    refine vcc_sound _ _ _ tabOk (by exact rfl) ?_
    repeat (first | refine Ob.mk (by first | rfl | omega | assumption | exact ⟨rfl, rfl, (List.length_map _).symm⟩ | exact ⟨rfl, rfl, by rw [List.length_map]; omega⟩) ?_ | refine Br.t ?_ | refine Br.f ?_)
    refine Br.mk (fun b17 => ?_) (fun b17 => ?_)
    · replace h := bif_t b17 h
      refine WP_skip ?_
      refine WP_seq ?_
      refine WP_block ?_
      refine WP_seq ?_
      refine vcc_sound _ _ _ tabOk (by exact rfl) ?_
      obtain ⟨c18, h⟩ := chk_some h
      repeat (first | refine Ob.mk (by first | rfl | omega | assumption | exact ⟨rfl, rfl, (List.length_map _).symm⟩ | exact ⟨rfl, rfl, by rw [List.length_map]; omega⟩) ?_ | refine Br.t ?_ | refine Br.f ?_)
      refine vcc_sound _ _ _ tabOk (by exact rfl) ?_
      repeat (first | refine Ob.mk (by first | rfl | omega | assumption | exact ⟨rfl, rfl, (List.length_map _).symm⟩ | exact ⟨rfl, rfl, by rw [List.length_map]; omega⟩) ?_ | refine Br.t ?_ | refine Br.f ?_)
      refine Br.mk (fun b19 => ?_) (fun b19 => ?_)
      · replace h := bif_t b19 h
        refine WP_seq ?_
        refine vcc_sound _ _ _ tabOk (by exact rfl) ?_
        repeat (first | refine Ob.mk (by first | rfl | omega | assumption | exact ⟨rfl, rfl, (List.length_map _).symm⟩ | exact ⟨rfl, rfl, by rw [List.length_map]; omega⟩) ?_ | refine Br.t ?_ | refine Br.f ?_)
        refine WP_ret ?_
        obtain rfl := Option.some.inj h
        repeat (first | refine Ob.mk (by first | rfl | omega | assumption | exact ⟨rfl, rfl, (List.length_map _).symm⟩ | exact ⟨rfl, rfl, by rw [List.length_map]; omega⟩) ?_ | refine Br.t ?_ | refine Br.f ?_)
        exact ⟨DLe.refl _, trivial⟩
      · replace h := bif_f b19 h
        refine WP_skip ?_
        refine vcc_sound _ _ _ tabOk (by exact rfl) ?_
        obtain ⟨c20, h⟩ := chk_some h
        repeat (first | refine Ob.mk (by first | rfl | omega | assumption | exact ⟨rfl, rfl, (List.length_map _).symm⟩ | exact ⟨rfl, rfl, by rw [List.length_map]; omega⟩) ?_ | refine Br.t ?_ | refine Br.f ?_)
        repeat (first | refine Ob.mk (by first | rfl | omega | assumption | exact ⟨rfl, rfl, (List.length_map _).symm⟩ | exact ⟨rfl, rfl, by rw [List.length_map]; omega⟩) ?_ | refine Br.t ?_ | refine Br.f ?_)
        exact ⟨⟨(m14, (x15 + 1)), h⟩, Nat.lt_succ_self _, Sub.ofL _ _ (Nat.zero_le _) ⟨rfl, rfl, rfl, rfl, rfl, rfl, trivial⟩ rfl rfl⟩
    · replace h := bif_f b17 h
      refine WP_exit ?_
      repeat (first | refine Ob.mk (by first | rfl | omega | assumption | exact ⟨rfl, rfl, (List.length_map _).symm⟩ | exact ⟨rfl, rfl, by rw [List.length_map]; omega⟩) ?_ | refine Br.t ?_ | refine Br.f ?_)
      exact ⟨⟨(), h⟩, Sub.ofL _ _ (Nat.zero_le _) trivial rfl rfl⟩

/-! ### newel/newellaw13.IndexVersions -/
def g_newellaw13_IndexVersions.k107 (n : Nat) (y71 : IxT × Int) : Option (Bool) :=
  (g_index_Index_Versions n y71.1 (⟨#[103]⟩ : Str) (⟨#[99]⟩ : Str)).bind fun y108 =>
  some ((y108.length : Int) == 0)
def g_newellaw13_IndexVersions.l107b (n : Nat) (l69 : (List Str)) (y71 : IxT × Int) (y72 : (List Str)) (rec107 : Int → Option (Bool)) (x109 : Int) : Option (Bool) :=
  bif (decide (x109 < (y72.length : Int))) then (
    chk (0 ≤ x109 ∧ x109 < (y72.length : Int)) <|
    (g_newelhelp_In_string n l69 (y72.getD x109.toNat emp)).bind fun y113 =>
    bif (!y113) then (
      some false
    ) else (
      bif (decide (x109 > 0)) then (
        chk (in64 (x109 - 1)) <|
        chk (0 ≤ (x109 - 1) ∧ (x109 - 1) < (y72.length : Int)) <|
        chk (0 ≤ x109 ∧ x109 < (y72.length : Int)) <|
        (g_newelref05_Compare n (y72.getD ((x109 - 1).toNat) emp) (y72.getD x109.toNat emp)).bind fun y119 =>
        bif (decide (y119 ≥ 0)) then (
          some false
        ) else (
          chk (in64 (x109 + 1)) <|
          rec107 (x109 + 1)
        )
      ) else (
        chk (in64 (x109 + 1)) <|
        rec107 (x109 + 1)
      )
    )
  ) else (
    g_newellaw13_IndexVersions.k107 n y71
  )
def g_newellaw13_IndexVersions.l107 (n : Nat) (l69 : (List Str)) (y71 : IxT × Int) (y72 : (List Str)) : Nat → Int → Option (Bool)
  | 0, _ => none
  | m + 1, x109 => g_newellaw13_IndexVersions.l107b n l69 y71 y72 (g_newellaw13_IndexVersions.l107 n l69 y71 y72 m) x109
def g_newellaw13_IndexVersions.k66 (n : Nat) (l67 : (List Item)) (v68 : Nat) (l69 : (List Str)) (v70 : Nat) : Option (Bool) :=
  (g_index_New n l67).bind fun y71 =>
  (g_index_Index_Versions n y71.1 (⟨#[103]⟩ : Str) (⟨#[97]⟩ : Str)).bind fun y72 =>
  (g_newellaw13_awake n).bind fun y79 =>
  bif (!y79) then (
    some false
  ) else (
    bif (y71.2 != 0) then (
      some false
    ) else (
      bif ((y72.length : Int) != (l69.length : Int)) then (
        some false
      ) else (
        (g_index_Index_Len n y71.1).bind fun y83 =>
        bif (y83 != (l67.length : Int)) then (
          some false
        ) else (
          g_newellaw13_IndexVersions.l107 n l69 y71 y72 n 0
        )
      )
    )
  )
def g_newellaw13_IndexVersions.l66b (n : Nat) (a0 : (List Int)) (a1 : (List Int)) (rec66 : (List Item) → Nat → (List Str) → Nat → Int → Option (Bool)) (l123 : (List Item)) (v124 : Nat) (l125 : (List Str)) (v126 : Nat) (x127 : Int) : Option (Bool) :=
  bif (decide (x127 < (a0.length : Int))) then (
    bif (decide (x127 < 30)) then (
      chk (0 ≤ x127 ∧ x127 < (a0.length : Int)) <|
      chk (in64 ((1 : Int) + (IntKind.wrap .i64 ((IntKind.wrap .u64 (a0.getD x127.toNat (0 : Int))).tmod 200)))) <|
      (g_newelhelp_Digits n ((1 : Int) + (IntKind.wrap .i64 ((IntKind.wrap .u64 (a0.getD x127.toNat (0 : Int))).tmod 200)))).bind fun y134 =>
      (g_newelhelp_In_string n l125 y134).bind fun y137 =>
      bif y137 then (
        chk (in64 (x127 + 1)) <|
        rec66 l123 v124 l125 v126 (x127 + 1)
      ) else (
        chk (room (l125 ++ [y134]).length 16) <|
        chk (room (l123 ++ [(Item.mk (Coord.mk (⟨#[103]⟩ : Str) (⟨#[97]⟩ : Str) y134) emp)]).length 64) <|
        bif (decide (x127 < (a1.length : Int))) then (
          chk (room ((l123 ++ [(Item.mk (Coord.mk (⟨#[103]⟩ : Str) (⟨#[97]⟩ : Str) y134) emp)]) ++ [(Item.mk (Coord.mk (⟨#[103]⟩ : Str) (⟨#[98]⟩ : Str) y134) emp)]).length 64) <|
          chk (in64 (x127 + 1)) <|
          rec66 ((l123 ++ [(Item.mk (Coord.mk (⟨#[103]⟩ : Str) (⟨#[97]⟩ : Str) y134) emp)]) ++ [(Item.mk (Coord.mk (⟨#[103]⟩ : Str) (⟨#[98]⟩ : Str) y134) emp)]) ((v124 + 1) + 1) (l125 ++ [y134]) (v126 + 1) (x127 + 1)
        ) else (
          chk (in64 (x127 + 1)) <|
          rec66 (l123 ++ [(Item.mk (Coord.mk (⟨#[103]⟩ : Str) (⟨#[97]⟩ : Str) y134) emp)]) (v124 + 1) (l125 ++ [y134]) (v126 + 1) (x127 + 1)
        )
      )
    ) else (
      g_newellaw13_IndexVersions.k66 n l123 v124 l125 v126
    )
  ) else (
    g_newellaw13_IndexVersions.k66 n l123 v124 l125 v126
  )
def g_newellaw13_IndexVersions.l66 (n : Nat) (a0 : (List Int)) (a1 : (List Int)) : Nat → (List Item) → Nat → (List Str) → Nat → Int → Option (Bool)
  | 0, _, _, _, _, _ => none
  | m + 1, l123, v124, l125, v126, x127 => g_newellaw13_IndexVersions.l66b n a0 a1 (g_newellaw13_IndexVersions.l66 n a0 a1 m) l123 v124 l125 v126 x127
def g_newellaw13_IndexVersions (n : Nat) (a0 : (List Int)) (a1 : (List Int)) : Option (Bool) :=
  g_newellaw13_IndexVersions.l66 n a0 a1 n ([] : List Item) 0 ([] : List Str) 0 0
theorem g_newellaw13_IndexVersions.ok (n : Nat) (a0 : (List Int)) (a1 : (List Int)) (r : Bool) (h : g_newellaw13_IndexVersions n a0 a1 = some r) : Impl Tryz.prog 3 [.one (.tl Int 1 encInt (0 : Int) a0), .one (.tl Int 1 encInt (0 : Int) a1)] [.one (dbool r)] := by
  refine impl_wp tabOk Tryz.func3 rfl rfl (by kernel_rfl) ?_
  unfold g_newellaw13_IndexVersions at h
  refine WP_seq ?_
  refine vcc_sound _ _ _ tabOk (by exact rfl) ?_
  repeat (first | refine Ob.mk (by first | rfl | omega | assumption | exact ⟨rfl, rfl, (List.length_map _).symm⟩ | exact ⟨rfl, rfl, by rw [List.length_map]; omega⟩) ?_ | refine Br.t ?_ | refine Br.f ?_)
  refine WP_seq ?_
  refine vcc_sound _ _ _ tabOk (by exact rfl) ?_
  repeat (first | refine Ob.mk (by first | rfl | omega | assumption | exact ⟨rfl, rfl, (List.length_map _).symm⟩ | exact ⟨rfl, rfl, by rw [List.length_map]; omega⟩) ?_ | refine Br.t ?_ | refine Br.f ?_)
  refine WP_seq ?_
  refine vcc_sound _ _ _ tabOk (by exact rfl) ?_
  repeat (first | refine Ob.mk (by first | rfl | omega | assumption | exact ⟨rfl, rfl, (List.length_map _).symm⟩ | exact ⟨rfl, rfl, by rw [List.length_map]; omega⟩) ?_ | refine Br.t ?_ | refine Br.f ?_)
  refine WP_seq ?_
  refine WP_seq ?_
  refine vcc_sound _ _ _ tabOk (by exact rfl) ?_
  repeat (first | refine Ob.mk (by first | rfl | omega | assumption | exact ⟨rfl, rfl, (List.length_map _).symm⟩ | exact ⟨rfl, rfl, by rw [List.length_map]; omega⟩) ?_ | refine Br.t ?_ | refine Br.f ?_)
  refine WP_cutQ (α := {p : (List Item) × Nat × (List Str) × Nat // g_newellaw13_IndexVersions.k66 n p.1 p.2.1 p.2.2.1 p.2.2.2 = some r}) (fun p => ofL [(5, .h 0 p.1.2.1 0 p.1.1.length), (6, .h 1 p.1.2.2.2 0 p.1.2.2.1.length)]) (fun p => [.row p.1.2.1 31 4 (p.1.1.map encItem), .row p.1.2.2.2 9 1 (p.1.2.2.1.map encStr)]) (WP_block (WP_loop (α := {x : Nat × (List Item) × Nat × (List Str) × Nat × Int // g_newellaw13_IndexVersions.l66 n a0 a1 x.1 x.2.1 x.2.2.1 x.2.2.2.1 x.2.2.2.2.1 x.2.2.2.2.2 = some r}) (fun x => ofL [(0, .d (.tl Int 1 encInt (0 : Int) a0)), (1, .d (.tl Int 1 encInt (0 : Int) a1)), (5, .h 0 x.1.2.2.1 0 x.1.2.1.length), (6, .h 1 x.1.2.2.2.2.1 0 x.1.2.2.2.1.length), (7, .int x.1.2.2.2.2.2)]) (fun x => [.row x.1.2.2.1 31 4 (x.1.2.1.map encItem), .row x.1.2.2.2.2.1 9 1 (x.1.2.2.2.1.map encStr)]) (fun x => x.1.1) ⟨(n, ([] : List Item), 0, ([] : List Str), 0, 0), h⟩ ((Sub.nilsRow 5 31 4 rfl).trans ((Sub.nilsRow 6 9 1 rfl).trans (Sub.ofL _ _ (Nat.zero_le _) ⟨rfl, rfl, rfl, rfl, rfl, rfl, rfl, rfl, rfl, rfl, trivial⟩ rfl rfl))) ?_)) ?_
  rotate_left
  · rintro ⟨⟨l67, v68, l69, v70⟩, h⟩ env st hs
    replace h : g_newellaw13_IndexVersions.k66 n l67 v68 l69 v70 = some r := h
    unfold g_newellaw13_IndexVersions.k66 at h
    refine WP_sub hs ?_
    try dsimp only
    refine WP_seq ?_
    refine WP_sub (Sub.shutT (s := 0) (k := v68) (n := l67.length) (e := 31) (sz := 4) 5 encItem zItem l67 rfl rfl rfl) ?_
    refine vcc_sound _ _ _ tabOk (by exact rfl) ?_
    obtain ⟨y71, hy71, h⟩ := bind_some h
    repeat (first | refine Ob.mk (by first | rfl | omega | assumption | exact ⟨rfl, rfl, (List.length_map _).symm⟩ | exact ⟨rfl, rfl, by rw [List.length_map]; omega⟩) ?_ | refine Br.t ?_ | refine Br.f ?_)
    refine CallD.mk _ _ (g_index_New.ok n l67 y71 hy71) (by exact ⟨DLe.refl _, trivial⟩) ?_
    repeat (first | refine Ob.mk (by first | rfl | omega | assumption | exact ⟨rfl, rfl, (List.length_map _).symm⟩ | exact ⟨rfl, rfl, by rw [List.length_map]; omega⟩) ?_ | refine Br.t ?_ | refine Br.f ?_)
    refine WP_seq ?_
    refine vcc_sound _ _ _ tabOk (by exact rfl) ?_
    obtain ⟨y72, hy72, h⟩ := bind_some h
    repeat (first | refine Ob.mk (by first | rfl | omega | assumption | exact ⟨rfl, rfl, (List.length_map _).symm⟩ | exact ⟨rfl, rfl, by rw [List.length_map]; omega⟩) ?_ | refine Br.t ?_ | refine Br.f ?_)
    refine CallD.mk _ _ (g_index_Index_Versions.ok n y71.1 (⟨#[103]⟩ : Str) (⟨#[97]⟩ : Str) y72 hy72) (by exact ⟨DLe.refl _, DLe.refl _, DLe.refl _, trivial⟩) ?_
    repeat (first | refine Ob.mk (by first | rfl | omega | assumption | exact ⟨rfl, rfl, (List.length_map _).symm⟩ | exact ⟨rfl, rfl, by rw [List.length_map]; omega⟩) ?_ | refine Br.t ?_ | refine Br.f ?_)
    refine WP_seq ?_
    refine WP_seq ?_
    refine vcc_sound _ _ _ tabOk (by exact rfl) ?_
    obtain ⟨y79, hy79, h⟩ := bind_some h
    repeat (first | refine Ob.mk (by first | rfl | omega | assumption | exact ⟨rfl, rfl, (List.length_map _).symm⟩ | exact ⟨rfl, rfl, by rw [List.length_map]; omega⟩) ?_ | refine Br.t ?_ | refine Br.f ?_)
    refine CallD.mk _ _ (g_newellaw13_awake.ok n y79 hy79) (by exact trivial) ?_
    repeat (first | refine Ob.mk (by first | rfl | omega | assumption | exact ⟨rfl, rfl, (List.length_map _).symm⟩ | exact ⟨rfl, rfl, by rw [List.length_map]; omega⟩) ?_ | refine Br.t ?_ | refine Br.f ?_)
    refine Br.mk (fun b80 => ?_) (fun b80 => ?_)
    · replace h := bif_t b80 h
      repeat (first | refine Ob.mk (by first | rfl | omega | assumption | exact ⟨rfl, rfl, (List.length_map _).symm⟩ | exact ⟨rfl, rfl, by rw [List.length_map]; omega⟩) ?_ | refine Br.t ?_ | refine Br.f ?_)
      refine vcc_sound _ _ _ tabOk (by exact rfl) ?_
      repeat (first | refine Ob.mk (by first | rfl | omega | assumption | exact ⟨rfl, rfl, (List.length_map _).symm⟩ | exact ⟨rfl, rfl, by rw [List.length_map]; omega⟩) ?_ | refine Br.t ?_ | refine Br.f ?_)
      refine WP_seq ?_
      refine vcc_sound _ _ _ tabOk (by exact rfl) ?_
      repeat (first | refine Ob.mk (by first | rfl | omega | assumption | exact ⟨rfl, rfl, (List.length_map _).symm⟩ | exact ⟨rfl, rfl, by rw [List.length_map]; omega⟩) ?_ | refine Br.t ?_ | refine Br.f ?_)
      refine WP_ret ?_
      obtain rfl := Option.some.inj h
      repeat (first | refine Ob.mk (by first | rfl | omega | assumption | exact ⟨rfl, rfl, (List.length_map _).symm⟩ | exact ⟨rfl, rfl, by rw [List.length_map]; omega⟩) ?_ | refine Br.t ?_ | refine Br.f ?_)
      exact ⟨DLe.refl _, trivial⟩
    · replace h := bif_f b80 h
      repeat (first | refine Ob.mk (by first | rfl | omega | assumption | exact ⟨rfl, rfl, (List.length_map _).symm⟩ | exact ⟨rfl, rfl, by rw [List.length_map]; omega⟩) ?_ | refine Br.t ?_ | refine Br.f ?_)
      refine Br.mk (fun b81 => ?_) (fun b81 => ?_)
      · replace h := bif_t b81 h
        repeat (first | refine Ob.mk (by first | rfl | omega | assumption | exact ⟨rfl, rfl, (List.length_map _).symm⟩ | exact ⟨rfl, rfl, by rw [List.length_map]; omega⟩) ?_ | refine Br.t ?_ | refine Br.f ?_)
        refine vcc_sound _ _ _ tabOk (by exact rfl) ?_
        repeat (first | refine Ob.mk (by first | rfl | omega | assumption | exact ⟨rfl, rfl, (List.length_map _).symm⟩ | exact ⟨rfl, rfl, by rw [List.length_map]; omega⟩) ?_ | refine Br.t ?_ | refine Br.f ?_)
        refine WP_seq ?_
        refine vcc_sound _ _ _ tabOk (by exact rfl) ?_
        repeat (first | refine Ob.mk (by first | rfl | omega | assumption | exact ⟨rfl, rfl, (List.length_map _).symm⟩ | exact ⟨rfl, rfl, by rw [List.length_map]; omega⟩) ?_ | refine Br.t ?_ | refine Br.f ?_)
        refine WP_ret ?_
        obtain rfl := Option.some.inj h
        repeat (first | refine Ob.mk (by first | rfl | omega | assumption | exact ⟨rfl, rfl, (List.length_map _).symm⟩ | exact ⟨rfl, rfl, by rw [List.length_map]; omega⟩) ?_ | refine Br.t ?_ | refine Br.f ?_)
        exact ⟨DLe.refl _, trivial⟩
      · replace h := bif_f b81 h
        repeat (first | refine Ob.mk (by first | rfl | omega | assumption | exact ⟨rfl, rfl, (List.length_map _).symm⟩ | exact ⟨rfl, rfl, by rw [List.length_map]; omega⟩) ?_ | refine Br.t ?_ | refine Br.f ?_)
        refine Br.mk (fun b82 => ?_) (fun b82 => ?_)
        · replace h := bif_t b82 h
          repeat (first | refine Ob.mk (by first | rfl | omega | assumption | exact ⟨rfl, rfl, (List.length_map _).symm⟩ | exact ⟨rfl, rfl, by rw [List.length_map]; omega⟩) ?_ | refine Br.t ?_ | refine Br.f ?_)
          refine vcc_sound _ _ _ tabOk (by exact rfl) ?_
          repeat (first | refine Ob.mk (by first | rfl | omega | assumption | exact ⟨rfl, rfl, (List.length_map _).symm⟩ | exact ⟨rfl, rfl, by rw [List.length_map]; omega⟩) ?_ | refine Br.t ?_ | refine Br.f ?_)
          refine WP_seq ?_
          refine vcc_sound _ _ _ tabOk (by exact rfl) ?_
          repeat (first | refine Ob.mk (by first | rfl | omega | assumption | exact ⟨rfl, rfl, (List.length_map _).symm⟩ | exact ⟨rfl, rfl, by rw [List.length_map]; omega⟩) ?_ | refine Br.t ?_ | refine Br.f ?_)
          refine WP_ret ?_
          obtain rfl := Option.some.inj h
          repeat (first | refine Ob.mk (by first | rfl | omega | assumption | exact ⟨rfl, rfl, (List.length_map _).symm⟩ | exact ⟨rfl, rfl, by rw [List.length_map]; omega⟩) ?_ | refine Br.t ?_ | refine Br.f ?_)
          exact ⟨DLe.refl _, trivial⟩
        · replace h := bif_f b82 h
          obtain ⟨y83, hy83, h⟩ := bind_some h
          repeat (first | refine Ob.mk (by first | rfl | omega | assumption | exact ⟨rfl, rfl, (List.length_map _).symm⟩ | exact ⟨rfl, rfl, by rw [List.length_map]; omega⟩) ?_ | refine Br.t ?_ | refine Br.f ?_)
          refine CallD.mk _ _ (g_index_Index_Len.ok n y71.1 y83 hy83) (by exact ⟨DLe.refl _, trivial⟩) ?_
          repeat (first | refine Ob.mk (by first | rfl | omega | assumption | exact ⟨rfl, rfl, (List.length_map _).symm⟩ | exact ⟨rfl, rfl, by rw [List.length_map]; omega⟩) ?_ | refine Br.t ?_ | refine Br.f ?_)
          refine vcc_sound _ _ _ tabOk (by exact rfl) ?_
          repeat (first | refine Ob.mk (by first | rfl | omega | assumption | exact ⟨rfl, rfl, (List.length_map _).symm⟩ | exact ⟨rfl, rfl, by rw [List.length_map]; omega⟩) ?_ | refine Br.t ?_ | refine Br.f ?_)
          refine Br.mk (fun b84 => ?_) (fun b84 => ?_)
          · replace h := bif_t b84 h
            refine WP_seq ?_
            refine vcc_sound _ _ _ tabOk (by exact rfl) ?_
            repeat (first | refine Ob.mk (by first | rfl | omega | assumption | exact ⟨rfl, rfl, (List.length_map _).symm⟩ | exact ⟨rfl, rfl, by rw [List.length_map]; omega⟩) ?_ | refine Br.t ?_ | refine Br.f ?_)
            refine WP_ret ?_
            obtain rfl := Option.some.inj h
            repeat (first | refine Ob.mk (by first | rfl | omega | assumption | exact ⟨rfl, rfl, (List.length_map _).symm⟩ | exact ⟨rfl, rfl, by rw [List.length_map]; omega⟩) ?_ | refine Br.t ?_ | refine Br.f ?_)
            exact ⟨DLe.refl _, trivial⟩
          · replace h := bif_f b84 h
            refine WP_skip ?_
            refine WP_seq ?_
            refine WP_seq ?_
            refine vcc_sound _ _ _ tabOk (by exact rfl) ?_
            repeat (first | refine Ob.mk (by first | rfl | omega | assumption | exact ⟨rfl, rfl, (List.length_map _).symm⟩ | exact ⟨rfl, rfl, by rw [List.length_map]; omega⟩) ?_ | refine Br.t ?_ | refine Br.f ?_)
            refine WP_cutQ (α := {p : Unit // g_newellaw13_IndexVersions.k107 n y71 = some r}) (fun p => ofL [(9, .d (dIx y71.1))]) (fun p => []) (WP_block (WP_loop (α := {x : Nat × Int // g_newellaw13_IndexVersions.l107 n l69 y71 y72 x.1 x.2 = some r}) (fun x => ofL [(6, .h 1 v70 0 l69.length), (9, .d (dIx y71.1)), (11, .d (.tl Str 1 encStr emp y72)), (12, .int x.1.2)]) (fun x => [.gone, .row v70 9 1 (l69.map encStr)]) (fun x => x.1.1) ⟨(n, 0), h⟩ (Sub.ofL _ _ (Nat.zero_le _) ⟨rfl, rfl, rfl, rfl, rfl, rfl, rfl, rfl, trivial⟩ rfl rfl) ?_)) ?_
            rotate_left
            · rintro ⟨⟨⟩, h⟩ env st hs
              replace h : g_newellaw13_IndexVersions.k107 n y71 = some r := h
              unfold g_newellaw13_IndexVersions.k107 at h
              refine WP_sub hs ?_
              try dsimp only
              refine WP_seq ?_
              refine vcc_sound _ _ _ tabOk (by exact rfl) ?_
              obtain ⟨y108, hy108, h⟩ := bind_some h
              repeat (first | refine Ob.mk (by first | rfl | omega | assumption | exact ⟨rfl, rfl, (List.length_map _).symm⟩ | exact ⟨rfl, rfl, by rw [List.length_map]; omega⟩) ?_ | refine Br.t ?_ | refine Br.f ?_)
              refine CallD.mk _ _ (g_index_Index_Versions.ok n y71.1 (⟨#[103]⟩ : Str) (⟨#[99]⟩ : Str) y108 hy108) (by exact ⟨DLe.refl _, DLe.refl _, DLe.refl _, trivial⟩) ?_
              repeat (first | refine Ob.mk (by first | rfl | omega | assumption | exact ⟨rfl, rfl, (List.length_map _).symm⟩ | exact ⟨rfl, rfl, by rw [List.length_map]; omega⟩) ?_ | refine Br.t ?_ | refine Br.f ?_)
              refine WP_ret ?_
              obtain rfl := Option.some.inj h
              repeat (first | refine Ob.mk (by first | rfl | omega | assumption | exact ⟨rfl, rfl, (List.length_map _).symm⟩ | exact ⟨rfl, rfl, by rw [List.length_map]; omega⟩) ?_ | refine Br.t ?_ | refine Br.f ?_)
              exact ⟨DLe.refl _, trivial⟩
            rintro ⟨⟨m107, x109⟩, h⟩
            cases m107 with
            | zero => exact nomatch (show (none : Option (Bool)) = some r from h)
            | succ m107 =>
              replace h : g_newellaw13_IndexVersions.l107b n l69 y71 y72 (g_newellaw13_IndexVersions.l107 n l69 y71 y72 m107) x109 = some r := h
              unfold g_newellaw13_IndexVersions.l107b at h
              try dsimp only
              refine WP_seq ?_
              refine WP_seq ?_
              refine vcc_sound _ _ _ tabOk (by exact rfl) ?_
              repeat (first | refine Ob.mk (by first | rfl | omega | assumption | exact ⟨rfl, rfl, (List.length_map _).symm⟩ | exact ⟨rfl, rfl, by rw [List.length_map]; omega⟩) ?_ | refine Br.t ?_ | refine Br.f ?_)
              refine vcc_sound _ _ _ tabOk (by exact rfl) ?_
              repeat (first | refine Ob.mk (by first | rfl | omega | assumption | exact ⟨rfl, rfl, (List.length_map _).symm⟩ | exact ⟨rfl, rfl, by rw [List.length_map]; omega⟩) ?_ | refine Br.t ?_ | refine Br.f ?_)
              refine Br.mk (fun b111 => ?_) (fun b111 => ?_)
              · replace h := bif_t b111 h
                refine WP_skip ?_
                refine WP_seq ?_
                refine WP_block ?_
                refine WP_seq ?_
                refine cdraw1 tabOk (by kernel_rfl) ?_
                obtain ⟨c112, h⟩ := chk_some h
                obtain ⟨y113, hy113, h⟩ := bind_some h
                repeat (first | refine Ob.mk (by first | rfl | omega | assumption | exact ⟨rfl, rfl, (List.length_map _).symm⟩ | exact ⟨rfl, rfl, by rw [List.length_map]; omega⟩) ?_ | refine Br.t ?_ | refine Br.f ?_)
                refine CallE.lend ⟨⟨rfl, rfl, (List.length_map _).symm⟩, ⟨_, _, g_newelhelp_In_string.ok n l69 (y72.getD x109.toNat emp) y113 hy113, ⟨DLe.tl emp rfl, DLe.refl _, trivial⟩, rfl, ?_⟩⟩
                repeat (first | refine Ob.mk (by first | rfl | omega | assumption | exact ⟨rfl, rfl, (List.length_map _).symm⟩ | exact ⟨rfl, rfl, by rw [List.length_map]; omega⟩) ?_ | refine Br.t ?_ | refine Br.f ?_)
                refine Br.mk (fun b114 => ?_) (fun b114 => ?_)
                · replace h := bif_t b114 h
                  repeat (first | refine Ob.mk (by first | rfl | omega | assumption | exact ⟨rfl, rfl, (List.length_map _).symm⟩ | exact ⟨rfl, rfl, by rw [List.length_map]; omega⟩) ?_ | refine Br.t ?_ | refine Br.f ?_)
                  refine vcc_sound _ _ _ tabOk (by exact rfl) ?_
                  repeat (first | refine Ob.mk (by first | rfl | omega | assumption | exact ⟨rfl, rfl, (List.length_map _).symm⟩ | exact ⟨rfl, rfl, by rw [List.length_map]; omega⟩) ?_ | refine Br.t ?_ | refine Br.f ?_)
                  refine WP_seq ?_
                  refine vcc_sound _ _ _ tabOk (by exact rfl) ?_
                  repeat (first | refine Ob.mk (by first | rfl | omega | assumption | exact ⟨rfl, rfl, (List.length_map _).symm⟩ | exact ⟨rfl, rfl, by rw [List.length_map]; omega⟩) ?_ | refine Br.t ?_ | refine Br.f ?_)
                  refine WP_ret ?_
                  obtain rfl := Option.some.inj h
                  repeat (first | refine Ob.mk (by first | rfl | omega | assumption | exact ⟨rfl, rfl, (List.length_map _).symm⟩ | exact ⟨rfl, rfl, by rw [List.length_map]; omega⟩) ?_ | refine Br.t ?_ | refine Br.f ?_)
                  exact ⟨DLe.refl _, trivial⟩
                · replace h := bif_f b114 h
                  repeat (first | refine Ob.mk (by first | rfl | omega | assumption | exact ⟨rfl, rfl, (List.length_map _).symm⟩ | exact ⟨rfl, rfl, by rw [List.length_map]; omega⟩) ?_ | refine Br.t ?_ | refine Br.f ?_)
                  refine Br.mk (fun b115 => ?_) (fun b115 => ?_)
                  · replace h := bif_t b115 h
                    obtain ⟨c116, h⟩ := chk_some h
                    obtain ⟨c117, h⟩ := chk_some h
                    obtain ⟨c118, h⟩ := chk_some h
                    obtain ⟨y119, hy119, h⟩ := bind_some h
                    repeat (first | refine Ob.mk (by first | rfl | omega | assumption | exact ⟨rfl, rfl, (List.length_map _).symm⟩ | exact ⟨rfl, rfl, by rw [List.length_map]; omega⟩) ?_ | refine Br.t ?_ | refine Br.f ?_)
                    refine CallD.mk _ _ (g_newelref05_Compare.ok n (y72.getD ((x109 - 1).toNat) emp) (y72.getD x109.toNat emp) y119 hy119) (by exact ⟨DLe.refl _, DLe.refl _, trivial⟩) ?_
                    repeat (first | refine Ob.mk (by first | rfl | omega | assumption | exact ⟨rfl, rfl, (List.length_map _).symm⟩ | exact ⟨rfl, rfl, by rw [List.length_map]; omega⟩) ?_ | refine Br.t ?_ | refine Br.f ?_)
                    refine vcc_sound _ _ _ tabOk (by exact rfl) ?_
                    repeat (first | refine Ob.mk (by first | rfl | omega | assumption | exact ⟨rfl, rfl, (List.length_map _).symm⟩ | exact ⟨rfl, rfl, by rw [List.length_map]; omega⟩) ?_ | refine Br.t ?_ | refine Br.f ?_)
                    refine Br.mk (fun b120 => ?_) (fun b120 => ?_)
                    · replace h := bif_t b120 h
                      refine WP_seq ?_
                      refine vcc_sound _ _ _ tabOk (by exact rfl) ?_
                      repeat (first | refine Ob.mk (by first | rfl | omega | assumption | exact ⟨rfl, rfl, (List.length_map _).symm⟩ | exact ⟨rfl, rfl, by rw [List.length_map]; omega⟩) ?_ | refine Br.t ?_ | refine Br.f ?_)
                      refine WP_ret ?_
                      obtain rfl := Option.some.inj h
                      repeat (first | refine Ob.mk (by first | rfl | omega | assumption | exact ⟨rfl, rfl, (List.length_map _).symm⟩ | exact ⟨rfl, rfl, by rw [List.length_map]; omega⟩) ?_ | refine Br.t ?_ | refine Br.f ?_)
                      exact ⟨DLe.refl _, trivial⟩
                    · replace h := bif_f b120 h
                      refine WP_skip ?_
                      refine vcc_sound _ _ _ tabOk (by exact rfl) ?_
                      obtain ⟨c121, h⟩ := chk_some h
                      repeat (first | refine Ob.mk (by first | rfl | omega | assumption | exact ⟨rfl, rfl, (List.length_map _).symm⟩ | exact ⟨rfl, rfl, by rw [List.length_map]; omega⟩) ?_ | refine Br.t ?_ | refine Br.f ?_)
                      repeat (first | refine Ob.mk (by first | rfl | omega | assumption | exact ⟨rfl, rfl, (List.length_map _).symm⟩ | exact ⟨rfl, rfl, by rw [List.length_map]; omega⟩) ?_ | refine Br.t ?_ | refine Br.f ?_)
                      exact ⟨⟨(m107, (x109 + 1)), h⟩, Nat.lt_succ_self _, Sub.ofL _ _ (Nat.zero_le _) ⟨rfl, rfl, rfl, rfl, rfl, rfl, rfl, rfl, trivial⟩ rfl rfl⟩
                  · replace h := bif_f b115 h
                    repeat (first | refine Ob.mk (by first | rfl | omega | assumption | exact ⟨rfl, rfl, (List.length_map _).symm⟩ | exact ⟨rfl, rfl, by rw [List.length_map]; omega⟩) ?_ | refine Br.t ?_ | refine Br.f ?_)
                    refine vcc_sound _ _ _ tabOk (by exact rfl) ?_
                    repeat (first | refine Ob.mk (by first | rfl | omega | assumption | exact ⟨rfl, rfl, (List.length_map _).symm⟩ | exact ⟨rfl, rfl, by rw [List.length_map]; omega⟩) ?_ | refine Br.t ?_ | refine Br.f ?_)
                    refine WP_skip ?_
                    refine vcc_sound _ _ _ tabOk (by exact rfl) ?_
                    obtain ⟨c122, h⟩ := chk_some h
                    repeat (first | refine Ob.mk (by first | rfl | omega | assumption | exact ⟨rfl, rfl, (List.length_map _).symm⟩ | exact ⟨rfl, rfl, by rw [List.length_map]; omega⟩) ?_ | refine Br.t ?_ | refine Br.f ?_)
                    repeat (first | refine Ob.mk (by first | rfl | omega | assumption | exact ⟨rfl, rfl, (List.length_map _).symm⟩ | exact ⟨rfl, rfl, by rw [List.length_map]; omega⟩) ?_ | refine Br.t ?_ | refine Br.f ?_)
                    exact ⟨⟨(m107, (x109 + 1)), h⟩, Nat.lt_succ_self _, Sub.ofL _ _ (Nat.zero_le _) ⟨rfl, rfl, rfl, rfl, rfl, rfl, rfl, rfl, trivial⟩ rfl rfl⟩
              · replace h := bif_f b111 h
                refine WP_exit ?_
                repeat (first | refine Ob.mk (by first | rfl | omega | assumption | exact ⟨rfl, rfl, (List.length_map _).symm⟩ | exact ⟨rfl, rfl, by rw [List.length_map]; omega⟩) ?_ | refine Br.t ?_ | refine Br.f ?_)
                exact ⟨⟨(), h⟩, Sub.ofL _ _ (Nat.zero_le _) ⟨rfl, rfl, trivial⟩ rfl rfl⟩
  rintro ⟨⟨m66, l123, v124, l125, v126, x127⟩, h⟩
  cases m66 with
  | zero => exact nomatch (show (none : Option (Bool)) = some r from h)
  | succ m66 =>
    replace h : g_newellaw13_IndexVersions.l66b n a0 a1 (g_newellaw13_IndexVersions.l66 n a0 a1 m66) l123 v124 l125 v126 x127 = some r := h
    unfold g_newellaw13_IndexVersions.l66b at h
    try dsimp only
    refine WP_seq ?_
    refine WP_seq ?_
    refine vcc_sound _ _ _ tabOk (by exact rfl) ?_
    repeat (first | refine Ob.mk (by first | rfl | omega | assumption | exact ⟨rfl, rfl, (List.length_map _).symm⟩ | exact ⟨rfl, rfl, by rw [List.length_map]; omega⟩) ?_ | refine Br.t ?_ | refine Br.f ?_)
    refine Br.mk (fun b130 => ?_) (fun b130 => ?_)
    · replace h := bif_t b130 h
      repeat (first | refine Ob.mk (by first | rfl | omega | assumption | exact ⟨rfl, rfl, (List.length_map _).symm⟩ | exact ⟨rfl, rfl, by rw [List.length_map]; omega⟩) ?_ | refine Br.t ?_ | refine Br.f ?_)
      refine vcc_sound _ _ _ tabOk (by exact rfl) ?_
      repeat (first | refine Ob.mk (by first | rfl | omega | assumption | exact ⟨rfl, rfl, (List.length_map _).symm⟩ | exact ⟨rfl, rfl, by rw [List.length_map]; omega⟩) ?_ | refine Br.t ?_ | refine Br.f ?_)
      refine Br.mk (fun b131 => ?_) (fun b131 => ?_)
      · replace h := bif_t b131 h
        refine WP_skip ?_
        refine WP_seq ?_
        refine WP_block ?_
        refine WP_seq ?_
        refine vcc_sound _ _ _ tabOk (by exact rfl) ?_
        obtain ⟨c132, h⟩ := chk_some h
        obtain ⟨c133, h⟩ := chk_some h
        obtain ⟨y134, hy134, h⟩ := bind_some h
        repeat (first | refine Ob.mk (by first | rfl | omega | assumption | exact ⟨rfl, rfl, (List.length_map _).symm⟩ | exact ⟨rfl, rfl, by rw [List.length_map]; omega⟩) ?_ | refine Br.t ?_ | refine Br.f ?_)
        refine CallD.mk _ _ (g_newelhelp_Digits.ok n ((1 : Int) + (IntKind.wrap .i64 ((IntKind.wrap .u64 (a0.getD x127.toNat (0 : Int))).tmod 200))) y134 hy134) (by exact ⟨DLe.refl _, trivial⟩) ?_
        repeat (first | refine Ob.mk (by first | rfl | omega | assumption | exact ⟨rfl, rfl, (List.length_map _).symm⟩ | exact ⟨rfl, rfl, by rw [List.length_map]; omega⟩) ?_ | refine Br.t ?_ | refine Br.f ?_)
        refine WP_seq ?_
        refine WP_seq ?_
        refine vcc_sound _ _ _ tabOk (by exact rfl) ?_
        obtain ⟨y137, hy137, h⟩ := bind_some h
        repeat (first | refine Ob.mk (by first | rfl | omega | assumption | exact ⟨rfl, rfl, (List.length_map _).symm⟩ | exact ⟨rfl, rfl, by rw [List.length_map]; omega⟩) ?_ | refine Br.t ?_ | refine Br.f ?_)
        refine CallE.lend ⟨⟨rfl, rfl, (List.length_map _).symm⟩, ⟨_, _, g_newelhelp_In_string.ok n l125 y134 y137 hy137, ⟨DLe.tl emp rfl, DLe.refl _, trivial⟩, rfl, ?_⟩⟩
        repeat (first | refine Ob.mk (by first | rfl | omega | assumption | exact ⟨rfl, rfl, (List.length_map _).symm⟩ | exact ⟨rfl, rfl, by rw [List.length_map]; omega⟩) ?_ | refine Br.t ?_ | refine Br.f ?_)
        refine vcc_sound _ _ _ tabOk (by exact rfl) ?_
        repeat (first | refine Ob.mk (by first | rfl | omega | assumption | exact ⟨rfl, rfl, (List.length_map _).symm⟩ | exact ⟨rfl, rfl, by rw [List.length_map]; omega⟩) ?_ | refine Br.t ?_ | refine Br.f ?_)
        refine Br.mk (fun b138 => ?_) (fun b138 => ?_)
        · replace h := bif_t b138 h
          refine WP_exit ?_
          refine vcc_sound _ _ _ tabOk (by exact rfl) ?_
          obtain ⟨c139, h⟩ := chk_some h
          repeat (first | refine Ob.mk (by first | rfl | omega | assumption | exact ⟨rfl, rfl, (List.length_map _).symm⟩ | exact ⟨rfl, rfl, by rw [List.length_map]; omega⟩) ?_ | refine Br.t ?_ | refine Br.f ?_)
          repeat (first | refine Ob.mk (by first | rfl | omega | assumption | exact ⟨rfl, rfl, (List.length_map _).symm⟩ | exact ⟨rfl, rfl, by rw [List.length_map]; omega⟩) ?_ | refine Br.t ?_ | refine Br.f ?_)
          exact ⟨⟨(m66, l123, v124, l125, v126, (x127 + 1)), h⟩, Nat.lt_succ_self _, Sub.ofL _ _ (Nat.zero_le _) ⟨rfl, rfl, rfl, rfl, rfl, rfl, rfl, rfl, rfl, rfl, trivial⟩ rfl rfl⟩
        · replace h := bif_f b138 h
          refine WP_skip ?_
          refine WP_seq ?_
          refine vcc_sound _ _ _ tabOk (by exact rfl) ?_
          repeat (first | refine Ob.mk (by first | rfl | omega | assumption | exact ⟨rfl, rfl, (List.length_map _).symm⟩ | exact ⟨rfl, rfl, by rw [List.length_map]; omega⟩) ?_ | refine Br.t ?_ | refine Br.f ?_)
          refine NewS.ty encStr emp [y134] rfl ?_
          obtain ⟨c140, h⟩ := chk_some h
          repeat (first | refine Ob.mk (by first | rfl | omega | assumption | exact ⟨rfl, rfl, (List.length_map _).symm⟩ | exact ⟨rfl, rfl, by rw [List.length_map]; omega⟩) ?_ | refine Br.t ?_ | refine Br.f ?_)
          refine AppK.ty encStr l125 [y134] rfl rfl ?_ c140 ?_
          · exact rfl
          repeat (first | refine Ob.mk (by first | rfl | omega | assumption | exact ⟨rfl, rfl, (List.length_map _).symm⟩ | exact ⟨rfl, rfl, by rw [List.length_map]; omega⟩) ?_ | refine Br.t ?_ | refine Br.f ?_)
          refine WP_seq ?_
          refine vcc_sound _ _ _ tabOk (by exact rfl) ?_
          repeat (first | refine Ob.mk (by first | rfl | omega | assumption | exact ⟨rfl, rfl, (List.length_map _).symm⟩ | exact ⟨rfl, rfl, by rw [List.length_map]; omega⟩) ?_ | refine Br.t ?_ | refine Br.f ?_)
          refine NewS.ty encItem zItem [(Item.mk (Coord.mk (⟨#[103]⟩ : Str) (⟨#[97]⟩ : Str) y134) emp)] rfl ?_
          obtain ⟨c141, h⟩ := chk_some h
          repeat (first | refine Ob.mk (by first | rfl | omega | assumption | exact ⟨rfl, rfl, (List.length_map _).symm⟩ | exact ⟨rfl, rfl, by rw [List.length_map]; omega⟩) ?_ | refine Br.t ?_ | refine Br.f ?_)
          refine AppK.ty encItem l123 ([(Item.mk (Coord.mk (⟨#[103]⟩ : Str) (⟨#[97]⟩ : Str) y134) emp)]) rfl rfl ?_ c141 ?_
          · exact rfl
          repeat (first | refine Ob.mk (by first | rfl | omega | assumption | exact ⟨rfl, rfl, (List.length_map _).symm⟩ | exact ⟨rfl, rfl, by rw [List.length_map]; omega⟩) ?_ | refine Br.t ?_ | refine Br.f ?_)
          refine WP_seq ?_
          refine vcc_sound _ _ _ tabOk (by exact rfl) ?_
          repeat (first | refine Ob.mk (by first | rfl | omega | assumption | exact ⟨rfl, rfl, (List.length_map _).symm⟩ | exact ⟨rfl, rfl, by rw [List.length_map]; omega⟩) ?_ | refine Br.t ?_ | refine Br.f ?_)
          refine vcc_sound _ _ _ tabOk (by exact rfl) ?_
          repeat (first | refine Ob.mk (by first | rfl | omega | assumption | exact ⟨rfl, rfl, (List.length_map _).symm⟩ | exact ⟨rfl, rfl, by rw [List.length_map]; omega⟩) ?_ | refine Br.t ?_ | refine Br.f ?_)
          refine Br.mk (fun b142 => ?_) (fun b142 => ?_)
          · replace h := bif_t b142 h
            refine vcc_sound _ _ _ tabOk (by exact rfl) ?_
            repeat (first | refine Ob.mk (by first | rfl | omega | assumption | exact ⟨rfl, rfl, (List.length_map _).symm⟩ | exact ⟨rfl, rfl, by rw [List.length_map]; omega⟩) ?_ | refine Br.t ?_ | refine Br.f ?_)
            refine NewS.ty encItem zItem [(Item.mk (Coord.mk (⟨#[103]⟩ : Str) (⟨#[98]⟩ : Str) y134) emp)] rfl ?_
            obtain ⟨c143, h⟩ := chk_some h
            repeat (first | refine Ob.mk (by first | rfl | omega | assumption | exact ⟨rfl, rfl, (List.length_map _).symm⟩ | exact ⟨rfl, rfl, by rw [List.length_map]; omega⟩) ?_ | refine Br.t ?_ | refine Br.f ?_)
            refine AppK.ty encItem (l123 ++ [(Item.mk (Coord.mk (⟨#[103]⟩ : Str) (⟨#[97]⟩ : Str) y134) emp)]) ([(Item.mk (Coord.mk (⟨#[103]⟩ : Str) (⟨#[98]⟩ : Str) y134) emp)]) rfl rfl ?_ c143 ?_
            · exact rfl
            repeat (first | refine Ob.mk (by first | rfl | omega | assumption | exact ⟨rfl, rfl, (List.length_map _).symm⟩ | exact ⟨rfl, rfl, by rw [List.length_map]; omega⟩) ?_ | refine Br.t ?_ | refine Br.f ?_)
            refine vcc_sound _ _ _ tabOk (by exact rfl) ?_
            obtain ⟨c144, h⟩ := chk_some h
            repeat (first | refine Ob.mk (by first | rfl | omega | assumption | exact ⟨rfl, rfl, (List.length_map _).symm⟩ | exact ⟨rfl, rfl, by rw [List.length_map]; omega⟩) ?_ | refine Br.t ?_ | refine Br.f ?_)
            repeat (first | refine Ob.mk (by first | rfl | omega | assumption | exact ⟨rfl, rfl, (List.length_map _).symm⟩ | exact ⟨rfl, rfl, by rw [List.length_map]; omega⟩) ?_ | refine Br.t ?_ | refine Br.f ?_)
            exact ⟨⟨(m66, ((l123 ++ [(Item.mk (Coord.mk (⟨#[103]⟩ : Str) (⟨#[97]⟩ : Str) y134) emp)]) ++ [(Item.mk (Coord.mk (⟨#[103]⟩ : Str) (⟨#[98]⟩ : Str) y134) emp)]), ((v124 + 1) + 1), (l125 ++ [y134]), (v126 + 1), (x127 + 1)), h⟩, Nat.lt_succ_self _, Sub.ofL _ _ (Nat.zero_le _) ⟨rfl, rfl, rfl, rfl, rfl, rfl, rfl, rfl, rfl, rfl, trivial⟩ rfl rfl⟩
          · replace h := bif_f b142 h
            refine WP_skip ?_
            refine vcc_sound _ _ _ tabOk (by exact rfl) ?_
            obtain ⟨c145, h⟩ := chk_some h
            repeat (first | refine Ob.mk (by first | rfl | omega | assumption | exact ⟨rfl, rfl, (List.length_map _).symm⟩ | exact ⟨rfl, rfl, by rw [List.length_map]; omega⟩) ?_ | refine Br.t ?_ | refine Br.f ?_)
            repeat (first | refine Ob.mk (by first | rfl | omega | assumption | exact ⟨rfl, rfl, (List.length_map _).symm⟩ | exact ⟨rfl, rfl, by rw [List.length_map]; omega⟩) ?_ | refine Br.t ?_ | refine Br.f ?_)
            exact ⟨⟨(m66, (l123 ++ [(Item.mk (Coord.mk (⟨#[103]⟩ : Str) (⟨#[97]⟩ : Str) y134) emp)]), (v124 + 1), (l125 ++ [y134]), (v126 + 1), (x127 + 1)), h⟩, Nat.lt_succ_self _, Sub.ofL _ _ (Nat.zero_le _) ⟨rfl, rfl, rfl, rfl, rfl, rfl, rfl, rfl, rfl, rfl, trivial⟩ rfl rfl⟩
      · replace h := bif_f b131 h
        refine WP_exit ?_
        repeat (first | refine Ob.mk (by first | rfl | omega | assumption | exact ⟨rfl, rfl, (List.length_map _).symm⟩ | exact ⟨rfl, rfl, by rw [List.length_map]; omega⟩) ?_ | refine Br.t ?_ | refine Br.f ?_)
        exact ⟨⟨(l123, v124, l125, v126), h⟩, Sub.ofL _ _ (Nat.zero_le _) ⟨rfl, rfl, rfl, rfl, trivial⟩ rfl rfl⟩
    · replace h := bif_f b130 h
      repeat (first | refine Ob.mk (by first | rfl | omega | assumption | exact ⟨rfl, rfl, (List.length_map _).symm⟩ | exact ⟨rfl, rfl, by rw [List.length_map]; omega⟩) ?_ | refine Br.t ?_ | refine Br.f ?_)
      refine vcc_sound _ _ _ tabOk (by exact rfl) ?_
      repeat (first | refine Ob.mk (by first | rfl | omega | assumption | exact ⟨rfl, rfl, (List.length_map _).symm⟩ | exact ⟨rfl, rfl, by rw [List.length_map]; omega⟩) ?_ | refine Br.t ?_ | refine Br.f ?_)
      refine WP_exit ?_
      repeat (first | refine Ob.mk (by first | rfl | omega | assumption | exact ⟨rfl, rfl, (List.length_map _).symm⟩ | exact ⟨rfl, rfl, by rw [List.length_map]; omega⟩) ?_ | refine Br.t ?_ | refine Br.f ?_)
      exact ⟨⟨(l123, v124, l125, v126), h⟩, Sub.ofL _ _ (Nat.zero_le _) ⟨rfl, rfl, rfl, rfl, trivial⟩ rfl rfl⟩

end Go.Proofs.Nw.K
end
section
/- QL0: sorted lists of versions; a number over another one. -/
open Go Go.RowKit Go.Proofs Go.Sort Go.Shelf
set_option linter.unusedVariables false
set_option linter.unusedSimpArgs false
namespace Go.Proofs.Nw.K

theorem modN2 (a : Int) (k : Nat) (hk : 0 < k) (hk2 : k ≤ 4000000) : ∃ i : Nat, i < k ∧ (IntKind.wrap .u64 a).tmod k = (i : Int) ∧ IntKind.wrap .i64 ((IntKind.wrap .u64 a).tmod k) = (i : Int) := by
  have h0 : 0 ≤ IntKind.wrap .u64 a := by
    simp only [IntKind.wrap, IntKind.bits, IntKind.signed]
    simp
    omega
  have h1 : (IntKind.wrap .u64 a).tmod k = (IntKind.wrap .u64 a) % k := Int.tmod_eq_emod_of_nonneg h0
  have h2 : 0 ≤ (IntKind.wrap .u64 a) % (k : Int) := Int.emod_nonneg _ (by omega)
  have h3 : (IntKind.wrap .u64 a) % (k : Int) < k := Int.emod_lt_of_pos _ (by omega)
  refine ⟨((IntKind.wrap .u64 a) % (k : Int)).toNat, by omega, by rw [h1]; omega, ?_⟩
  rw [h1, wrap_i64_id _ (by omega) (by omega)]
  omega

theorem sortV_perm2 (l : List Str) : (sortV l).Perm l := List.mergeSort_perm l _
theorem sortV_pair2 (l : List Str) : (sortV l).Pairwise fun a b => wholeC a b ≤ 0 := by
  have := List.pairwise_mergeSort (le := fun x y => !(ltOf wholeC) y x) (fun a b c h1 h2 => by
    simp only [ltOf, Bool.not_eq_true', decide_eq_false_iff_not] at *
    have a1 := totC.anti a b
    have a2 := totC.anti b c
    have a3 := totC.anti a c
    have := totC.trans a b c (by omega) (by omega)
    omega) (fun a b => by
    simp only [ltOf, Bool.or_eq_true, Bool.not_eq_true', decide_eq_false_iff_not]
    have := totC.anti a b
    omega) l
  refine List.Pairwise.imp (fun {a b} h => ?_) this
  simp only [ltOf, Bool.not_eq_true', decide_eq_false_iff_not] at h
  have := totC.anti a b
  omega
theorem sortV_same2 {a b : List Str} (h : a.Perm b) : sortV a = sortV b :=
  List.Perm.eq_of_pairwise (fun x y _ _ h1 h2 => wholeC_zero (by have := totC.anti x y; omega)) (sortV_pair2 a) (sortV_pair2 b) (((sortV_perm2 a).trans h).trans (sortV_perm2 b).symm)


end Go.Proofs.Nw.K
end
section
/- QL8: the document's order of versions is the program's. -/
open Go Go.RowKit Go.Proofs Go.Sort Go.Shelf
set_option linter.unusedVariables false
set_option linter.unusedSimpArgs false
namespace Go.Proofs.Nw.K

theorem u8_lt (b : UInt8) : (b.toNat : Int) < 256 := by have := b.toNat_lt; omega
theorem str_len (s : Str) : s.data.toList.length = s.size := (str_size s).symm
theorem byteAt_lo (s : Str) (i : Nat) (h : i < s.size) : 0 ≤ byteAt s i ∧ byteAt s i < 256 := by
  rw [byteAt_lt s i (by rw [str_len]; exact h)]
  have := u8_lt (s.data.toList[i]'(by rw [str_len]; exact h))
  exact ⟨by omega, this⟩

/-! ### small letters -/
theorem low_k76 (n : Nat) (l : List Int) (v : Nat) (i : Int) (rec : List Int → Nat → Int → Option Str) (x : Int) (h1 : l.length ≤ 4194304) (h2 : 0 ≤ i) (h3 : i ≤ 4194304) : g_newelref01_Lower.k76 n l v i rec x = rec (l ++ [x]) (v + 1) (i + 1) := by
  unfold g_newelref01_Lower.k76
  rw [chk_t (by unfold room; simp only [List.length_append, List.length_singleton]; omega), chk_t (by unfold in64; omega)]
theorem rLower_loop (n : Nat) (s : Str) (hs : s.size ≤ 4194303) : ∀ (m i v : Nat), i ≤ s.size → s.size < i + m → g_newelref01_Lower.l61 n s m (((bytesI s).take i).map lowI) v (i : Int) = some (lowerOf s)
  | 0, i, v, h1, h => by omega
  | m + 1, i, v, h1, h => by
    unfold g_newelref01_Lower.l61 g_newelref01_Lower.l61b
    rw [decN]
    by_cases hi : i < s.size
    · have hl : ((bytesI s).take (i + 1)).map lowI = ((bytesI s).take i).map lowI ++ [lowI (byteAt s i)] := by
        obtain ⟨h3, h4⟩ := List.getElem?_eq_some_iff.1 (bytesI_get s i (by rw [str_len]; exact hi))
        rw [List.take_succ_eq_append_getElem h3, List.map_append, h4]; rfl
      have ih := rLower_loop n s hs m (i + 1) (v + 1) hi (by omega)
      rw [hl, show (((i + 1 : Nat) : Int)) = (i : Int) + 1 by omega] at ih
      have hb := byteAt_lo s i hi
      have hk : ∀ x, x = lowI (byteAt s i) → g_newelref01_Lower.k76 n (((bytesI s).take i).map lowI) v (i : Int) (g_newelref01_Lower.l61 n s m) x = some (lowerOf s) := fun x hx => by
        rw [low_k76 _ _ _ _ _ _ (by rw [List.length_map, List.length_take]; omega) (by omega) (by omega), hx]
        exact ih
      rw [decide_eq_true hi, cond_true, chk_at hi, Int.toNat_natCast]
      by_cases h65 : byteAt s i ≥ 65
      · rw [decide_eq_true h65, cond_true]
        unfold g_newelref01_Lower.k81
        by_cases h90 : byteAt s i ≤ 90
        · rw [decide_eq_true h90, cond_true]
          refine hk _ ?_
          rw [Int.toNat_natCast]
          unfold lowI
          rw [if_pos ⟨h65, h90⟩, u8wrap (by omega) (by omega)]
        · rw [decide_eq_false h90, cond_false]
          refine hk _ ?_
          rw [Int.toNat_natCast]
          unfold lowI
          rw [if_neg (fun c => h90 c.2)]
      · rw [decide_eq_false h65, cond_false]
        unfold g_newelref01_Lower.k81
        rw [cond_false]
        refine hk _ ?_
        rw [Int.toNat_natCast]
        unfold lowI
        rw [if_neg (fun c => h65 c.1)]
    · rw [decide_eq_false hi, cond_false]
      have : i = s.size := by omega
      subst this
      unfold g_newelref01_Lower.k61
      have : (bytesI s).take s.size = bytesI s := List.take_of_length_le (by rw [bytesI, List.length_map, str_len]; exact Nat.le_refl _)
      rw [this]
      exact congrArg some (lower_back s)
theorem rLower_eq (n : Nat) (s : Str) (hs : s.size ≤ 4194303) (hn : s.size < n) : g_newelref01_Lower n s = some (lowerOf s) :=
  rLower_loop n s hs n 0 0 (Nat.zero_le _) (by omega)

/-! ### parts -/
theorem rDigit_eq (n : Nat) (c : Int) : g_newelref01_Digit n c = some (digitB c) := by
  unfold g_newelref01_Digit digitB
  by_cases h : c ≥ 48
  · rw [decide_eq_true h]; rfl
  · rw [decide_eq_false h]; rfl
theorem extract_one (s : Str) (i : Nat) (h : i < s.data.toList.length) : s.extract i (i + 1) = one s.data.toList[i] := by
  apply str_ext
  show (s.extract i (i + 1)).data.toList = [s.data.toList[i]]
  have h2 : i < s.data.size := by simpa using h
  simp only [ByteArray.data_extract, Array.toList_extract, List.extract_eq_take_drop, Nat.add_sub_cancel_left]
  rw [List.drop_eq_getElem_cons h]
  rfl
theorem lastU_at (s : Str) (h : s ≠ emp) : 0 < s.size ∧ byteAt s (s.size - 1) = ((lastU s).toNat : Int) := by
  have hp : 0 < s.data.toList.length := by
    cases e : s.data.toList with
    | nil => exact absurd (str_ext (a := s) (b := emp) e) h
    | cons _ _ => simp
  have hs := str_len s
  refine ⟨by omega, ?_⟩
  rw [byteAt_lt s _ (by omega)]
  unfold lastU
  rw [List.getLast?_eq_getElem?]
  have e : s.data.toList.length - 1 = s.size - 1 := by omega
  rw [e, List.getElem?_eq_getElem (by omega)]
  rfl
theorem allP_get (q : List Pt × Pt) : (allP q).getD q.1.length zPt = q.2 := by simp [allP]
theorem allP_set (q : List Pt × Pt) (p : Pt) : (allP q).set q.1.length p = allP (q.1, p) := by simp [allP]
theorem allP_snoc (q : List Pt × Pt) (p : Pt) : allP q ++ [p] = allP (q.1 ++ [q.2], p) := by simp [allP]
theorem allP_m1 (q : List Pt × Pt) : ((allP q).length : Int) - 1 = (q.1.length : Int) := by rw [allP_length]; omega

theorem rParts_k219 (n : Nat) (s : Str) (hs : s.size ≤ 4194304) (i : Nat) (hi : i < s.data.toList.length) (rec : List Pt → Nat → Int → Option (List Pt)) (q : List Pt × Pt) (v : Nat) (hq : q.1.length ≤ 8388608) (ht : q.2.text.size ≤ 8388608) :
    g_newelref05_parts.k219 n s (i : Int) rec (allP q) v = rec (allP (q.1, ⟨q.2.text ++ one s.data.toList[i], q.2.dash, q.2.number⟩)) v ((i : Int) + 1) := by
  have hs2 := str_len s
  unfold g_newelref05_parts.k219
  rw [allP_m1, chk_t (by unfold in64; omega), chk_t (by rw [allP_length]; omega), chk_t (by unfold in64; omega), chk_t (by omega)]
  rw [Int.toNat_natCast, Int.toNat_natCast, allP_get, show ((i : Int) + 1).toNat = i + 1 by omega, extract_one s i hi, chk_t (by show q.2.text.size + 1 ≤ _; omega), chk_t (by unfold in64; omega), allP_set]
theorem room_parts (l : List Pt) (h : l.length ≤ 16777216) : room l.length 24 := by unfold room; omega
theorem rParts_loop (n : Nat) (s : Str) (hs : s.size ≤ 4194303) : ∀ (m i v : Nat), i ≤ s.size → s.size < i + m → g_newelref05_parts.l166 n s m (allP (foldP (s.data.toList.take i))) v (i : Int) = some (partsOf s)
  | 0, i, v, h1, h => by omega
  | m + 1, i, v, h1, h => by
    have hs2 := str_len s
    unfold g_newelref05_parts.l166 g_newelref05_parts.l166b
    rw [decN]
    by_cases hi : i < s.size
    · have hi2 : i < s.data.toList.length := by omega
      have hstep := foldP_at s i hi2
      have hfl := foldP_length s.data.toList i
      have hft := foldP_text s.data.toList i
      have ih : ∀ v, g_newelref05_parts.l166 n s m (allP (stepP (foldP (s.data.toList.take i)) s.data.toList[i])) v ((i : Int) + 1) = some (partsOf s) := fun v => by
        have ih := rParts_loop n s hs m (i + 1) v hi (by omega)
        rwa [hstep, show (((i + 1 : Nat) : Int)) = (i : Int) + 1 by omega] at ih
      generalize foldP (s.data.toList.take i) = q at *
      generalize hb : s.data.toList[i] = b at *
      have hby : byteAt s i = (b.toNat : Int) := by rw [byteAt_lt s i hi2, hb]
      have h46 : (byteAt s i == 46) = (b == 46) := by
        rw [hby, Bool.eq_iff_iff, beq_iff_eq, beq_iff_eq, ← UInt8.toNat_inj]
        show _ ↔ b.toNat = 46
        omega
      have h45 : (byteAt s i == 45) = (b == 45) := by
        rw [hby, Bool.eq_iff_iff, beq_iff_eq, beq_iff_eq, ← UInt8.toNat_inj]
        show _ ↔ b.toNat = 45
        omega
      rw [decide_eq_true hi, cond_true, allP_m1, chk_t (by unfold in64; omega), chk_t (by rw [allP_length]; omega), chk_at hi, Int.toNat_natCast, chk_at hi, h46, h45]
      have hk : g_newelref05_parts.k191 n s (allP q) v (i : Int) (g_newelref05_parts.l166 n s m) (sepU b) = some (partsOf s) := by
        unfold g_newelref05_parts.k191
        cases hsep : sepU b with
        | true =>
          rw [cond_true, chk_at hi, Int.toNat_natCast, h45, allP_snoc, chk_t (room_parts _ (by rw [allP_length]; simp only [List.length_append, List.length_singleton]; omega)), chk_t (in64_nat (by omega))]
          have := ih (v + 1)
          unfold stepP at this
          rw [if_pos hsep] at this
          exact this
        | false =>
          have hns : ¬ sepU b = true := by rw [hsep]; exact Bool.false_ne_true
          rw [cond_false, allP_m1, Int.toNat_natCast, chk_t (by rw [allP_length]; omega), allP_get]
          have plain : ((!(q.2.text.toList == emp.toList)) && (digU b != digU (lastU q.2.text))) = false → g_newelref05_parts.k234 n s (allP q) v (i : Int) (g_newelref05_parts.l166 n s m) false = some (partsOf s) := fun hc => by
            unfold g_newelref05_parts.k234
            rw [cond_false, rParts_k219 n s (by omega) i hi2 _ q v (by omega) (by omega), hb]
            have := ih v
            unfold stepP at this
            rw [if_neg hns, if_neg (by rw [hc]; exact Bool.false_ne_true)] at this
            exact this
          cases he : (!(q.2.text.toList == emp.toList)) with
          | false => rw [cond_false]; exact plain (by rw [he]; rfl)
          | true =>
            have hne : q.2.text ≠ emp := fun e => by rw [e] at he; simp at he
            obtain ⟨g1, g2⟩ := lastU_at _ hne
            rw [cond_true, chk_t (by unfold in64; omega), chk_t (by omega), show (((q.2.text.size : Int) - 1).toNat) = q.2.text.size - 1 by omega, g2, rDigit_eq, Option.bind_some, chk_at hi, rDigit_eq, Option.bind_some, Int.toNat_natCast, hby, digU_B, digU_B]
            have hcomm : (!(digU (lastU q.2.text) == digU b)) = (digU b != digU (lastU q.2.text)) := by cases digU (lastU q.2.text) <;> cases digU b <;> rfl
            rw [hcomm]
            cases hd : (digU b != digU (lastU q.2.text)) with
            | false => exact plain (by rw [he, hd]; rfl)
            | true =>
              unfold g_newelref05_parts.k234
              rw [cond_true, chk_at hi, Int.toNat_natCast, hby, rDigit_eq, Option.bind_some, allP_m1, Int.toNat_natCast, chk_t (by rw [allP_length]; omega), allP_get, allP_set, allP_snoc, chk_t (room_parts _ (by rw [allP_length]; simp only [List.length_append, List.length_singleton]; omega))]
              rw [rParts_k219 n s (by omega) i hi2 _ _ _ (by simp only [List.length_append, List.length_singleton]; omega) (by show 0 ≤ _; omega), hb, emp_app, digU_B]
              have := ih (v + 1)
              unfold stepP at this
              rw [if_neg hns, if_pos (by rw [he, hd]; rfl)] at this
              exact this
      unfold sepU at hk
      cases h46b : (b == 46) with
      | true => rw [h46b, Bool.true_or] at hk; rw [cond_true]; exact hk
      | false => rw [h46b, Bool.false_or] at hk; rw [cond_false]; exact hk
    · rw [decide_eq_false hi, cond_false]
      unfold g_newelref05_parts.k166 partsOf
      rw [List.take_of_length_le (by omega)]
theorem rParts_eq (n : Nat) (s : Str) (hs : s.size ≤ 4194303) (hn : s.size < n) : g_newelref05_parts n s = some (partsOf s) :=
  rParts_loop n s hs n 0 0 (Nat.zero_le _) (by omega)

/-! ### a word -/
theorem trim0_cons (b : UInt8) (r : List UInt8) (h : b = 48) : trim0 ⟨(b :: r).toArray⟩ = trim0 ⟨r.toArray⟩ := by
  subst h
  apply str_ext
  simp [trim0, zerosL]
theorem trim0_stop (b : UInt8) (r : List UInt8) (h : b ≠ 48) : trim0 ⟨(b :: r).toArray⟩ = ⟨(b :: r).toArray⟩ := by
  apply str_ext
  simp [trim0, zerosL, h]
theorem str_mk (s : Str) : s = ⟨s.data.toList.toArray⟩ := str_ext (by simp)
theorem extract_tail (b : UInt8) (r : List UInt8) : (⟨(b :: r).toArray⟩ : Str).extract 1 (⟨(b :: r).toArray⟩ : Str).size = ⟨r.toArray⟩ := by
  apply str_ext
  have : (⟨(b :: r).toArray⟩ : Str).size = r.length + 1 := by rw [str_size]; simp
  rw [this]
  simp only [ByteArray.data_extract, Array.toList_extract, List.extract_eq_take_drop]
  simp
theorem rNumber_loop (n : Nat) (p : Pt) : ∀ (m : Nat) (l : List UInt8), l.length < m → g_newelref05_number.l12 n p m ⟨l.toArray⟩ = g_newelref05_number.k12 n p (trim0 ⟨l.toArray⟩)
  | 0, l, h => by omega
  | m + 1, l, h => by
    unfold g_newelref05_number.l12 g_newelref05_number.l12b
    have hsz : (⟨l.toArray⟩ : Str).size = l.length := by rw [str_size]
    cases l with
    | nil => rfl
    | cons b r =>
      have hlen : (b :: r).length = r.length + 1 := rfl
      have hby : byteAt (⟨(b :: r).toArray⟩ : Str) 0 = (b.toNat : Int) := byteAt_lt (⟨(b :: r).toArray⟩ : Str) 0 (by simp)
      rw [decide_eq_true (by rw [hsz]; omega), cond_true, chk_t (by rw [hsz]; omega), hby]
      by_cases h48 : b = 48
      · have : ((b.toNat : Int) == 48) = true := by subst h48; rfl
        rw [this, cond_true, chk_t (by rw [hsz]; omega), extract_tail, rNumber_loop n p m r (by omega), trim0_cons b r h48]
      · have : ((b.toNat : Int) == 48) = false := by
          rw [beq_eq_false_iff_ne]
          intro e
          exact h48 (UInt8.toNat_inj.1 (by show b.toNat = 48; omega))
        rw [this, cond_false, trim0_stop b r h48]
theorem rNumber_eq (n : Nat) (p : Pt) (h : p.text.size < n) : g_newelref05_number n p = some (if (trim0 p.text).toList == emp.toList then ⟨6, emp⟩ else if p.dash then ⟨9, trim0 p.text⟩ else ⟨10, trim0 p.text⟩) := by
  unfold g_newelref05_number
  have := rNumber_loop n p n p.text.data.toList (by rw [str_len]; exact h)
  rw [← str_mk] at this
  rw [this]
  unfold g_newelref05_number.k12
  cases (trim0 p.text).toList == emp.toList with
  | true => rfl
  | false => cases p.dash <;> rfl

theorem rLetters_eq (n : Nat) (p : Pt) : g_newelref05_word.k15 n p false = some (lettersOf p) := by
  obtain ⟨t, d, k⟩ := p
  by_cases h1 : t = sAlpha
  · subst h1; cases k <;> kernel_rfl
  by_cases h2 : t = sBeta
  · subst h2; cases k <;> kernel_rfl
  by_cases h3 : t = sMile
  · subst h3; cases k <;> kernel_rfl
  by_cases h4 : t = sRc
  · subst h4; cases k <;> kernel_rfl
  by_cases h5 : t = sCr
  · subst h5; cases k <;> kernel_rfl
  by_cases h6 : t = sSnap
  · subst h6; cases k <;> kernel_rfl
  by_cases h7 : t = sGa
  · subst h7; cases k <;> kernel_rfl
  by_cases h8 : t = sFinal
  · subst h8; cases k <;> kernel_rfl
  by_cases h9 : t = sRelease
  · subst h9; cases k <;> kernel_rfl
  by_cases h10 : t = sSp
  · subst h10; cases k <;> kernel_rfl
  by_cases h11 : t = sA
  · subst h11; cases k <;> kernel_rfl
  by_cases h12 : t = sB
  · subst h12; cases k <;> kernel_rfl
  by_cases h13 : t = sM
  · subst h13; cases k <;> kernel_rfl
  have f : ∀ x : Str, t ≠ x → (t.toList == x.toList) = false := fun x h => by rw [str_beq]; exact decide_eq_false h
  have e1 := f _ h1
  have e2 := f _ h2
  have e3 := f _ h3
  have e4 := f _ h4
  have e5 := f _ h5
  have e6 := f _ h6
  have e7 := f _ h7
  have e8 := f _ h8
  have e9 := f _ h9
  have e10 := f _ h10
  have e11 := f _ h11
  have e12 := f _ h12
  have e13 := f _ h13
  have hl : longS ⟨t, d, k⟩ = t := by
    unfold longS
    cases k with
    | false => rfl
    | true => simp only [e11, e12, e13]; rfl
  have hk : kindS t = none := by
    unfold kindS
    simp only [e1, e2, e3, e4, e5, e6, e7, e8, e9, e10]
    rfl
  unfold lettersOf
  rw [hl, hk]
  unfold sAlpha at e1; unfold sBeta at e2; unfold sMile at e3; unfold sRc at e4; unfold sCr at e5; unfold sSnap at e6; unfold sGa at e7; unfold sFinal at e8; unfold sRelease at e9; unfold sSp at e10; unfold sA at e11; unfold sB at e12; unfold sM at e13
  unfold g_newelref05_word.k15 g_newelref05_word.k53 g_newelref05_word.k59 g_newelref05_word.k36 g_newelref05_word.k42
  rw [cond_false, e1, cond_false, e2, cond_false, e3, cond_false, e4, cond_false, e5, cond_false, e6, cond_false, e7, cond_false, e8, cond_false, e9, cond_false, e10, cond_false]
  cases k with
  | false => rfl
  | true =>
    rw [cond_true, e11, cond_false, e12, cond_false, e13, cond_false]
    rfl
theorem rWord_eq (n : Nat) (p : Pt) (h : p.text.size < n) : g_newelref05_word n p = some (wordOf p) := by
  have k15t : g_newelref05_word.k15 n p true = some (if (trim0 p.text).toList == emp.toList then ⟨6, emp⟩ else if p.dash then ⟨9, trim0 p.text⟩ else ⟨10, trim0 p.text⟩) := by
    unfold g_newelref05_word.k15
    rw [cond_true, rNumber_eq n p h]; rfl
  unfold g_newelref05_word
  have ew : wordOf p = if !(p.text.toList == emp.toList) && !digitB (byteAt p.text 0) then lettersOf p else if (trim0 p.text).toList == emp.toList then ⟨6, emp⟩ else if p.dash then ⟨9, trim0 p.text⟩ else ⟨10, trim0 p.text⟩ := rfl
  rw [ew]
  cases he : p.text.toList == emp.toList with
  | true => rw [cond_true, k15t]; rfl
  | false =>
    have hp : 0 < p.text.size := size_pos (by rw [he]; rfl)
    rw [cond_false, chk_t (by omega), rDigit_eq, Option.bind_some]
    cases hd : digitB (byteAt p.text 0) with
    | true => rw [k15t]; rfl
    | false => rw [rLetters_eq]; rfl

/-! ### all words -/
theorem rev_last (out : List Wd) (h : 0 < out.length) : out.reverse.getD 0 zWd = lastW out := by
  unfold lastW
  rw [List.getD_eq_getElem?_getD, List.getD_eq_getElem?_getD, List.getElem?_reverse h]
  rfl
theorem rSplit_loop (n : Nat) (l : List Pt) (hl : l.length ≤ 4194304) (ht : ∀ p ∈ l, p.text.size < n) : ∀ (m j : Nat), j ≤ l.length → j < m → g_newelref05_Split.l63 n l m (splitRev (l.drop j)).reverse ((j : Int) - 1) = some (splitRev l).reverse
  | 0, j, h1, h => by omega
  | m + 1, j, h1, h => by
    unfold g_newelref05_Split.l63 g_newelref05_Split.l63b
    cases j with
    | zero => rfl
    | succ j =>
      have hj : j < l.length := by omega
      have hstep := splitRev_at l j hj
      have ih := rSplit_loop n l hl ht m j (by omega) (by omega)
      rw [hstep] at ih
      have hb := splitRev_length (l.drop (j + 1))
      rw [List.length_drop] at hb
      generalize splitRev (l.drop (j + 1)) = out at *
      have e0 : ((j + 1 : Nat) : Int) - 1 = (j : Int) := by omega
      have hg : l.getD (j : Int).toNat zPt = l[j] := by rw [Int.toNat_natCast, List.getD_eq_getElem?_getD, List.getElem?_eq_getElem hj]; rfl
      rw [e0, decide_eq_true (by omega), cond_true, chk_at hj, hg, rWord_eq n _ (ht _ (List.getElem_mem hj)), Option.bind_some]
      have hk : ∀ x, x = (decide ((out.length : Int) > 0) && ((lastW out).kind == 6 || (lastW out).kind == 10)) → g_newelref05_Split.k76 n out.reverse (j : Int) (g_newelref05_Split.l63 n l m) (wordOf l[j]) x = some (splitRev l).reverse := fun x hx => by
        unfold g_newelref05_Split.k76
        have h79 : splitStep out l[j] = out ++ [wordOf l[j]] → g_newelref05_Split.k79 n out.reverse (j : Int) (g_newelref05_Split.l63 n l m) (wordOf l[j]) = some (splitRev l).reverse := fun e => by
          unfold g_newelref05_Split.k79
          rw [chk_t (by unfold room; simp only [List.length_append, List.length_singleton, List.length_reverse]; omega), chk_t (by unfold in64; omega)]
          rw [e, List.reverse_append] at ih
          exact ih
        cases h6 : (wordOf l[j]).kind == 6 with
        | false =>
          rw [cond_false]
          refine h79 ?_
          unfold splitStep keepB
          have : ((wordOf l[j]).kind != 6) = true := by unfold bne; rw [h6]; rfl
          rw [this]; rfl
        | true =>
          have h7 : ((wordOf l[j]).kind != 6) = false := by unfold bne; rw [h6]; rfl
          rw [cond_true]
          cases x with
          | false =>
            rw [Bool.not_false, cond_true, chk_t (by unfold in64; omega)]
            have : splitStep out l[j] = out := by
              unfold splitStep keepB
              rw [h7, ← hx]; rfl
            rw [this] at ih
            exact ih
          | true =>
            rw [Bool.not_true, cond_false]
            refine h79 ?_
            unfold splitStep keepB
            rw [h7, ← hx]; rfl
      rw [List.length_reverse]
      by_cases h0 : (out.length : Int) > 0
      · have hp : 0 < out.length := by omega
        rw [decide_eq_true h0, cond_true, chk_t (by omega), rev_last out hp, chk_t (by omega)]
        rw [decide_eq_true h0, Bool.true_and] at hk
        cases h6 : (lastW out).kind == 6 with
        | true => rw [h6, Bool.true_or] at hk; rw [cond_true]; exact hk _ rfl
        | false => rw [h6, Bool.false_or] at hk; rw [cond_false]; exact hk _ rfl
      · rw [decide_eq_false h0, cond_false]
        rw [decide_eq_false h0, Bool.false_and] at hk
        exact hk _ rfl
theorem partsOf_small (s : Str) (hs : s.size ≤ 4194303) (p : Pt) (hp : p ∈ partsOf s) : p.text.size ≤ s.size := by
  have key : ∀ (l : List UInt8) (q : List Pt × Pt) (b : Nat), (∀ p ∈ allP q, p.text.size ≤ b) → ∀ p ∈ allP (l.foldl stepP q), p.text.size ≤ b + l.length := by
    intro l
    induction l with
    | nil => intro q b h p hp; exact Nat.le_trans (h p hp) (by simp)
    | cons x r ih =>
      intro q b h p hp
      have := ih (stepP q x) (b + 1) (fun p hp => by
        have h1 : ∀ p ∈ q.1, p.text.size ≤ b := fun p hp => h p (by simp [allP, hp])
        have h2 : q.2.text.size ≤ b := h q.2 (by simp [allP])
        unfold stepP at hp
        split at hp
        · simp only [allP, List.mem_append, List.mem_singleton] at hp
          rcases hp with (hp | rfl) | rfl
          · have := h1 p hp; omega
          · omega
          · show 0 ≤ _; omega
        · split at hp
          · simp only [allP, List.mem_append, List.mem_singleton] at hp
            rcases hp with (hp | rfl) | rfl
            · have := h1 p hp; omega
            · show q.2.text.size ≤ _; omega
            · show 1 ≤ _; omega
          · simp only [allP, List.mem_append, List.mem_singleton] at hp
            rcases hp with hp | rfl
            · have := h1 p hp; omega
            · show (q.2.text ++ one x).size ≤ _
              rw [app_size]; show _ + 1 ≤ _; omega) p hp
      simp only [List.length_cons]
      omega
  have := key s.data.toList ([], zPt) 0 (fun p hp => by
    simp only [allP, List.nil_append, List.mem_singleton] at hp
    subst hp; exact Nat.le_refl 0) p hp
  rw [str_len] at this
  omega
theorem rSplit_eq (n : Nat) (s : Str) (hs : s.size ≤ 4194303) (hn : s.size + 2 < n) : g_newelref05_Split n s = some (splitOf s) := by
  have hz := lowerOf_size s
  have hlen := partsOf_length (lowerOf s)
  unfold g_newelref05_Split
  rw [rLower_eq n s hs (by omega), Option.bind_some, rParts_eq n _ (by omega) (by omega), Option.bind_some, chk_t (by unfold in64; omega)]
  have := rSplit_loop n (partsOf (lowerOf s)) (by omega) (fun p hp => by have := partsOf_small (lowerOf s) (by omega) p hp; omega) n (partsOf (lowerOf s)).length (Nat.le_refl _) (by omega)
  rw [List.drop_length] at this
  exact this

/-! ### two words, two lists of them -/
theorem rText_eq (n : Nat) (a b : Str) : g_newelref05_text n a b = some (strCmp a b) := by
  unfold g_newelref05_text strCmp
  cases h1 : Op.bytesLess a.toList b.toList with
  | true => rfl
  | false => cases h2 : a.toList == b.toList with
    | true => rfl
    | false => rfl
theorem rOne_eq (n : Nat) (a b : Wd) : g_newelref05_one n a b = some (wordCmp a b) := by
  unfold g_newelref05_one wordCmp
  have hc := cmpI_spec a.kind b.kind
  by_cases h1 : a.kind < b.kind
  · have e : cmpI a.kind b.kind = -1 := by omega
    rw [decide_eq_true h1, cond_true, e]; rfl
  · rw [decide_eq_false h1, cond_false]
    by_cases h2 : a.kind > b.kind
    · have e : cmpI a.kind b.kind = 1 := by omega
      rw [decide_eq_true h2, cond_true, e]; rfl
    · have e : cmpI a.kind b.kind = 0 := by omega
      rw [decide_eq_false h2, cond_false, if_neg (by omega)]
      have k7t : (a.kind = 9 ∨ a.kind = 10) → g_newelref05_one.k7 n a b true = some (orI [cmpI a.text.size b.text.size, strCmp a.text b.text]) := fun _ => by
        unfold g_newelref05_one.k7
        rw [cond_true]
        have hs := cmpI_spec (a.text.size : Int) (b.text.size : Int)
        simp only [orI]
        by_cases h3 : (a.text.size : Int) = (b.text.size : Int)
        · have e3 : cmpI (a.text.size : Int) (b.text.size : Int) = 0 := by omega
          rw [show ((a.text.size : Int) != (b.text.size : Int)) = false by rw [h3]; simp, cond_false, rText_eq, Option.bind_some, if_pos e3]
          by_cases h5 : strCmp a.text b.text = 0
          · rw [if_pos h5, h5]
          · rw [if_neg h5]
        · rw [show ((a.text.size : Int) != (b.text.size : Int)) = true by simpa using h3, cond_true]
          by_cases h4 : (a.text.size : Int) < (b.text.size : Int)
          · have e4 : cmpI (a.text.size : Int) (b.text.size : Int) = -1 := by omega
            rw [decide_eq_true h4, cond_true, if_neg (by omega), e4]
          · have e4 : cmpI (a.text.size : Int) (b.text.size : Int) = 1 := by omega
            rw [decide_eq_false h4, cond_false, if_neg (by omega), e4]
      by_cases h8 : a.kind = 8
      · rw [if_pos h8, h8, beq_self_eq_true, cond_true, rText_eq]; rfl
      · rw [if_neg h8, show (a.kind == 8) = false by simpa using h8, cond_false]
        by_cases h9 : a.kind = 9
        · rw [if_pos (.inl h9), show (a.kind == 9) = true by simpa using h9, cond_true, k7t (.inl h9)]
        · rw [show (a.kind == 9) = false by simpa using h9, cond_false]
          by_cases h10 : a.kind = 10
          · rw [if_pos (.inr h10), show (a.kind == 10) = true by simpa using h10, k7t (.inr h10)]
          · rw [if_neg (by omega), show (a.kind == 10) = false by simpa using h10]; rfl
theorem rWords_loop (n : Nat) (a b : List Wd) (ha : a.length ≤ 4194304) (hb : b.length ≤ 4194304) : ∀ (f m i : Nat), max a.length b.length ≤ i + m → i + m ≤ 4194304 → m < f → g_newelref05_Words.l48 n a b f (i : Int) = some (seqFrom a b m i)
  | 0, m, i, h1, h2, h => by omega
  | f + 1, m, i, h1, h2, h => by
    unfold g_newelref05_Words.l48 g_newelref05_Words.l48b
    rw [decN, decN]
    have hk : (i < a.length ∨ i < b.length) → g_newelref05_Words.k52 n a b (i : Int) (g_newelref05_Words.l48 n a b f) = some (seqFrom a b m i) := fun hor => by
      have hm : 0 < m := by omega
      obtain ⟨m', rfl⟩ : ∃ m', m = m' + 1 := ⟨m - 1, by omega⟩
      have ih := rWords_loop n a b ha hb f m' (i + 1) (by omega) (by omega) (by omega)
      have hk62 : ∀ x y : Wd, x = atW a i → y = atW b i → g_newelref05_Words.k62 n (i : Int) (g_newelref05_Words.l48 n a b f) x.kind x.text y.kind y.text = some (seqFrom a b (m' + 1) i) := fun x y hx hy => by
        unfold g_newelref05_Words.k62
        show (g_newelref05_one n x y).bind _ = _
        rw [rOne_eq, Option.bind_some, hx, hy]
        unfold seqFrom
        by_cases hz : wordCmp (atW a i) (atW b i) = 0
        · rw [hz]
          rw [show ((0 : Int) != 0) = false from rfl, cond_false, chk_t (in64_nat (by omega)), if_neg (by omega), show (i : Int) + 1 = ((i + 1 : Nat) : Int) by omega]
          exact ih
        · rw [show (wordCmp (atW a i) (atW b i) != 0) = true by simpa using hz, cond_true, if_pos hz]
      have hk57 : ∀ x : Wd, x = atW a i → g_newelref05_Words.k57 n b (i : Int) (g_newelref05_Words.l48 n a b f) x.kind x.text = some (seqFrom a b (m' + 1) i) := fun x hx => by
        unfold g_newelref05_Words.k57
        rw [decN]
        by_cases h3 : i < b.length
        · rw [decide_eq_true h3, cond_true, chk_at h3, Int.toNat_natCast]
          exact hk62 x (b.getD i zWd) hx (by unfold atW; rw [List.getD_eq_getElem?_getD, List.getD_eq_getElem?_getD, List.getElem?_eq_getElem h3]; rfl)
        · rw [decide_eq_false h3, cond_false]
          exact hk62 x nothing hx (atW_ge (by omega)).symm
      unfold g_newelref05_Words.k52
      rw [decN]
      by_cases h3 : i < a.length
      · rw [decide_eq_true h3, cond_true, chk_at h3, Int.toNat_natCast]
        exact hk57 (a.getD i zWd) (by unfold atW; rw [List.getD_eq_getElem?_getD, List.getD_eq_getElem?_getD, List.getElem?_eq_getElem h3]; rfl)
      · rw [decide_eq_false h3, cond_false]
        exact hk57 nothing (atW_ge (by omega)).symm
    by_cases h1 : i < a.length
    · rw [decide_eq_true h1, cond_true]; exact hk (.inl h1)
    · rw [decide_eq_false h1, cond_false]
      by_cases h2 : i < b.length
      · rw [decide_eq_true h2, cond_true]; exact hk (.inr h2)
      · rw [decide_eq_false h2, cond_false, seq_nothing a b m i (by omega) (by omega)]
        rfl
theorem rWords_eq (n : Nat) (a b : List Wd) (ha : a.length ≤ 4194304) (hb : b.length ≤ 4194304) (hn : max a.length b.length < n) : g_newelref05_Words n a b = some (wordsCmp a b) := by
  unfold g_newelref05_Words
  have := rWords_loop n a b ha hb n (max a.length b.length) 0 (by omega) (by omega) hn
  rw [show (0 : Int) = ((0 : Nat) : Int) from rfl, this, wordsCmp_seq a b _ (Nat.le_max_left _ _) (Nat.le_max_right _ _)]
theorem rCompare_eq (n : Nat) (a b : Str) (ha : a.size ≤ 4194302) (hb : b.size ≤ 4194302) (h1 : a.size + 2 < n) (h2 : b.size + 2 < n) : g_newelref05_Compare n a b = some (cmpV a b) := by
  have l1 := splitOf_length a
  have l2 := splitOf_length b
  unfold g_newelref05_Compare
  rw [rSplit_eq n a (by omega) h1, Option.bind_some, rSplit_eq n b (by omega) h2, Option.bind_some, rWords_eq n _ _ (by omega) (by omega) (by omega)]
  rfl
theorem strCmp_less (a b : Str) : Op.bytesLess a.toList b.toList = decide (strCmp a b < 0) := by
  unfold strCmp
  cases h1 : Op.bytesLess a.toList b.toList with
  | true => rfl
  | false => cases h2 : a.toList == b.toList with
    | true => rfl
    | false => rfl
theorem rBefore_eq (n : Nat) (a b : Str) (ha : a.size ≤ 4194302) (hb : b.size ≤ 4194302) (h1 : a.size + 2 < n) (h2 : b.size + 2 < n) : g_newelref05_before n a b = some (decide (wholeC a b < 0)) := by
  unfold g_newelref05_before wholeC
  rw [rCompare_eq n a b ha hb h1 h2, Option.bind_some]
  by_cases c : cmpV a b < 0
  · rw [decide_eq_true c, cond_true, if_pos (by omega), decide_eq_true c]
  · rw [decide_eq_false c, cond_false]
    by_cases c2 : cmpV a b = 0
    · rw [c2, beq_self_eq_true, cond_true, if_neg (by omega), strCmp_less]
    · rw [show (cmpV a b == 0) = false by simpa using c2, cond_false, if_pos c2, decide_eq_false c]

/-! ### put in at its place -/
theorem ins_pair {α : Type} {c : α → α → Int} (h : TotPre c) (out : List α) (x : α) (k : Nat) (hk : k ≤ out.length) (hs : out.Pairwise fun a b => c a b ≤ 0)
    (h1 : ∀ j (hj : j < out.length), k ≤ j → c x out[j] ≤ 0) (h2 : ∀ j (hj : j < out.length), j < k → c out[j] x ≤ 0) : (out.take k ++ [x] ++ out.drop k).Pairwise fun a b => c a b ≤ 0 := by
  rw [List.append_assoc, List.pairwise_append]
  refine ⟨hs.sublist (List.take_sublist _ _), ?_, ?_⟩
  · rw [List.singleton_append, List.pairwise_cons]
    refine ⟨fun y hy => ?_, hs.sublist (List.drop_sublist _ _)⟩
    obtain ⟨j, hj, rfl⟩ := List.getElem_of_mem hy
    rw [List.getElem_drop]
    exact h1 _ _ (by omega)
  · intro y hy z hz
    rw [List.singleton_append] at hz
    obtain ⟨j, hj, rfl⟩ := List.getElem_of_mem hy
    rw [List.length_take] at hj
    rw [List.getElem_take]
    have hjx := h2 j (by omega) (by omega)
    rcases List.mem_cons.1 hz with rfl | hz
    · exact hjx
    · obtain ⟨i, hi, rfl⟩ := List.getElem_of_mem hz
      rw [List.length_drop] at hi
      rw [List.getElem_drop]
      exact h.trans _ x _ hjx (h1 _ _ (by omega))
theorem ins_perm {α : Type} (out : List α) (x : α) (k : Nat) : (out.take k ++ [x] ++ out.drop k).Perm (out ++ [x]) := by
  have e : out ++ [x] = out.take k ++ (out.drop k ++ [x]) := by rw [← List.append_assoc, List.take_append_drop]
  rw [e, List.append_assoc]
  exact List.Perm.append_left _ List.perm_append_comm
/-- the place, looked for from the end on -/
theorem ins_place {α : Type} {c : α → α → Int} (h : TotPre c) (out : List α) (x : α) (k : Nat) (hk : k < out.length) (hs : out.Pairwise fun a b => c a b ≤ 0) (hx : ¬ c x out[k] < 0) : ∀ j (hj : j < out.length), j < k + 1 → c out[j] x ≤ 0 := fun j hj hjk => by
  have h1 : c out[k] x ≤ 0 := by have := h.anti x out[k]; omega
  by_cases e : j = k
  · subst e; exact h1
  · exact h.trans _ _ _ (List.pairwise_iff_getElem.1 hs j k hj hk (by omega)) h1

theorem rSort_in (n : Nat) (l : List Str) (out : List Str) (i : Nat) (rec : List Str → Int → Option (List Str)) (r : Option (List Str)) (hi : i < l.length) (hll : l.length ≤ 4194304) (hlo : out.length ≤ 4194304)
    (hsl : ∀ x ∈ l, x.size ≤ 4194302 ∧ x.size + 2 < n) (hso : ∀ x ∈ out, x.size ≤ 4194302 ∧ x.size + 2 < n) (hs : out.Pairwise fun a b => wholeC a b ≤ 0)
    (hr : ∀ o : List Str, (o.Pairwise fun a b => wholeC a b ≤ 0) → o.Perm (out ++ [l[i]]) → rec o ((i : Int) + 1) = r) :
    ∀ (m k : Nat), k < m → k ≤ out.length → (∀ j (hj : j < out.length), k ≤ j → wholeC l[i] out[j] ≤ 0) → g_newelref05_Sort.l117 n l out (i : Int) rec m (k : Int) = r
  | 0, k, h, _, _ => by omega
  | m + 1, k, h, hk, h1 => by
    unfold g_newelref05_Sort.l117 g_newelref05_Sort.l117b
    have hg : l.getD (i : Int).toNat emp = l[i] := by simp [hi]
    have k117 : (∀ j (hj : j < out.length), j < k → wholeC out[j] l[i] ≤ 0) → g_newelref05_Sort.k117 n l out (i : Int) rec (k : Int) = r := fun h2 => by
      unfold g_newelref05_Sort.k117
      have hlen : (out.take k ++ [l[i]] ++ out.drop k).length = out.length + 1 := by
        rw [(ins_perm out l[i] k).length_eq]; simp
      rw [chk_t ⟨by omega, by omega⟩, Int.toNat_natCast, chk_t (by unfold room; rw [List.length_take]; omega), chk_at hi, hg, chk_t (by unfold room; simp only [List.length_append, List.length_take, List.length_singleton]; omega), chk_t ⟨by omega, by omega⟩, chk_t (by unfold room; rw [hlen]; omega), chk_t (in64_nat (by omega))]
      exact hr _ (ins_pair totC out l[i] k hk hs h1 h2) (ins_perm _ _ _)
    cases k with
    | zero => exact k117 (fun j hj h0 => by omega)
    | succ k =>
      have hk' : k < out.length := by omega
      have e : ((k + 1 : Nat) : Int) - 1 = (k : Int) := by omega
      have hg2 : out.getD (k : Int).toNat emp = out[k] := by simp [hk']
      have s1 := hsl _ (List.getElem_mem hi)
      have s2 := hso _ (List.getElem_mem hk')
      rw [decide_eq_true (by omega), cond_true, chk_at hi, chk_t (by unfold in64; omega), e, chk_at hk', hg, hg2, rBefore_eq n _ _ s1.1 s2.1 s1.2 s2.2, Option.bind_some]
      by_cases hx : wholeC l[i] out[k] < 0
      · rw [decide_eq_true hx, cond_true, chk_t (by unfold in64; omega)]
        refine rSort_in n l out i rec r hi hll hlo hsl hso hs hr m k (by omega) (by omega) (fun j hj hjk => ?_)
        by_cases ej : j = k
        · subst ej; omega
        · exact h1 j hj (by omega)
      · rw [decide_eq_false hx, cond_false]
        exact k117 (ins_place totC out l[i] k hk' hs hx)
theorem rSort_loop (n : Nat) (l : List Str) (hll : l.length ≤ 4194303) (hn : l.length + 1 < n) (hsl : ∀ x ∈ l, x.size ≤ 4194302 ∧ x.size + 2 < n) : ∀ (m i : Nat) (out : List Str), i ≤ l.length → l.length < i + m → (out.Pairwise fun a b => wholeC a b ≤ 0) → out.Perm (l.take i) →
    g_newelref05_Sort.l94 n l m out (i : Int) = some (sortV l)
  | 0, i, out, h1, h, _, _ => by omega
  | m + 1, i, out, h1, h, hs, hp => by
    unfold g_newelref05_Sort.l94 g_newelref05_Sort.l94b
    rw [decN]
    by_cases hi : i < l.length
    · have hlen := hp.length_eq
      rw [List.length_take] at hlen
      rw [decide_eq_true hi, cond_true]
      refine rSort_in n l out i _ _ hi (by omega) (by omega) hsl (fun x hx => hsl x (List.mem_of_mem_take (hp.mem_iff.1 hx))) hs (fun o ho hop => ?_) n out.length (by omega) (Nat.le_refl _) (fun j hj hjk => by omega)
      rw [show (i : Int) + 1 = ((i + 1 : Nat) : Int) by omega]
      refine rSort_loop n l hll hn hsl m (i + 1) o hi (by omega) ho ?_
      rw [List.take_succ_eq_append_getElem hi]
      exact hop.trans (hp.append_right _)
    · rw [decide_eq_false hi, cond_false]
      have : i = l.length := by omega
      subst this
      rw [List.take_length] at hp
      unfold g_newelref05_Sort.k94
      exact congrArg some (List.Perm.eq_of_pairwise (fun x y _ _ h1 h2 => wholeC_zero (by have := totC.anti x y; omega)) hs (sortV_pair2 l) (hp.trans (sortV_perm2 l).symm))
theorem rSort_eq (n : Nat) (l : List Str) (hll : l.length ≤ 4194303) (hn : l.length + 1 < n) (hsl : ∀ x ∈ l, x.size ≤ 4194302 ∧ x.size + 2 < n) : g_newelref05_Sort n l = some (sortV l) :=
  rSort_loop n l hll hn hsl n 0 [] (Nat.zero_le _) (by omega) List.Pairwise.nil (List.Perm.refl _)
end Go.Proofs.Nw.K
end
section
/- ZL9: which items are taken; what an index tells. -/
open Go Go.RowKit Go.Proofs Go.Sort Go.Shelf
set_option linter.unusedVariables false
set_option linter.unusedSimpArgs false
namespace Go.Proofs.Nw.K

theorem fnd_textT (c : Coord) : ∀ (d : List Item), (fndM c (textT d)).isSome = decide (c ∈ d.map (·.coord))
  | [] => rfl
  | it :: r => by
    have ih := fnd_textT c r
    unfold textT at *
    simp only [List.map_cons, fndM, List.mem_cons]
    by_cases h : c = it.coord
    · simp [h]
    · simp only [h, if_false, false_or, Option.isSome_map, ih]
theorem newGo_zero (ok : Coord → Bool) : ∀ (r d : List Item), newGo d ok r = 0 ↔ (∀ it ∈ r, ok it.coord = true) ∧ (r.map (·.coord)).Nodup ∧ ∀ it ∈ r, it.coord ∉ d.map (·.coord)
  | [], d => by simp [newGo]
  | x :: r, d => by
    have ih := newGo_zero ok r (d ++ [x])
    unfold newGo
    cases h1 : ok x.coord with
    | false =>
      simp only [cond_false]
      constructor
      · intro h; cases h
      · rintro ⟨h, _⟩
        have := h x (by simp)
        rw [h1] at this; cases this
    | true =>
      rw [cond_true, fnd_textT]
      by_cases h2 : x.coord ∈ d.map (·.coord)
      · rw [decide_eq_true h2, cond_true]
        constructor
        · intro h; cases h
        · rintro ⟨_, _, h⟩
          exact absurd h2 (h x (by simp))
      · rw [decide_eq_false h2, cond_false, ih]
        simp only [List.map_append, List.map_cons, List.map_nil, List.mem_append, List.mem_cons, List.not_mem_nil, or_false, not_or, List.nodup_cons]
        constructor
        · rintro ⟨h3, h4, h5⟩
          refine ⟨fun it hi => ?_, ⟨fun hm => ?_, h4⟩, fun it hi => ?_⟩
          · rcases hi with rfl | hi
            · exact h1
            · exact h3 it hi
          · obtain ⟨it, hi, he⟩ := List.mem_map.1 hm
            exact (h5 it hi).2 he
          · rcases hi with rfl | hi
            · exact h2
            · exact (h5 it hi).1
        · rintro ⟨h3, ⟨h4, h5⟩, h6⟩
          refine ⟨fun it hi => h3 it (Or.inr hi), h5, fun it hi => ⟨h6 it (Or.inr hi), fun he => h4 ?_⟩⟩
          rw [← he]
          exact List.mem_map.2 ⟨it, hi, rfl⟩
theorem newE_zero (ok : Coord → Bool) (l : List Item) : newE ok l = 0 ↔ l.length ≤ 300 ∧ (∀ it ∈ l, ok it.coord = true) ∧ (l.map (·.coord)).Nodup := by
  unfold newE
  by_cases h : (l.length : Int) > 300
  · rw [decide_eq_true h, cond_true]
    constructor
    · intro h; cases h
    · rintro ⟨h1, _⟩; omega
  · rw [decide_eq_false h, cond_false, newGo_zero]
    constructor
    · rintro ⟨h1, h2, _⟩; exact ⟨by omega, h1, h2⟩
    · rintro ⟨_, h1, h2⟩; exact ⟨h1, h2, fun it _ => by simp⟩

theorem lookT_cons (c : Coord) (it : Item) (r : List Item) : lookT c (it :: r) = if c = it.coord then it.text else lookT c r := rfl
theorem lookT_in : ∀ (l : List Item), (l.map (·.coord)).Nodup → ∀ it ∈ l, lookT it.coord l = it.text
  | [], _, it, h => by cases h
  | x :: r, hn, it, h => by
    simp only [List.map_cons, List.nodup_cons] at hn
    rw [lookT_cons]
    rcases List.mem_cons.1 h with rfl | h
    · rw [if_pos rfl]
    · rw [if_neg (fun e : it.coord = x.coord => hn.1 (by rw [← e]; exact List.mem_map.2 ⟨it, h, rfl⟩))]
      exact lookT_in r hn.2 it h
theorem lookT_out (c : Coord) : ∀ (l : List Item), c ∉ l.map (·.coord) → lookT c l = emp
  | [], _ => rfl
  | x :: r, h => by
    simp only [List.map_cons, List.mem_cons, not_or] at h
    rw [lookT_cons, if_neg h.1]
    exact lookT_out c r h.2
theorem lookT_perm (c : Coord) {l m : List Item} (hp : m.Perm l) (hn : (l.map (·.coord)).Nodup) : lookT c m = lookT c l := by
  have hpc := hp.map (·.coord)
  by_cases h : c ∈ l.map (·.coord)
  · obtain ⟨it, hi, rfl⟩ := List.mem_map.1 h
    rw [lookT_in l hn it hi, lookT_in m (hpc.nodup_iff.2 hn) it (hp.mem_iff.2 hi)]
  · rw [lookT_out c l h, lookT_out c m (fun h2 => h (hpc.mem_iff.1 h2))]
theorem lookM_upd {α β : Type} [DecidableEq α] (p q : α) (z x : β) : ∀ (V : List (α × β)), lookM z p (updM q x V) = if p = q then x else lookM z p V
  | [] => by simp only [updM, lookM]
  | (a, u) :: r => by
    have ih := lookM_upd p q z x r
    unfold updM
    by_cases h : q = a
    · subst h
      rw [if_pos rfl]
      simp only [lookM]
      split <;> rfl
    · rw [if_neg h]
      simp only [lookM, ih]
      by_cases h2 : p = a
      · subst h2
        rw [if_pos rfl, if_pos rfl, if_neg (fun e => h e.symm)]
      · rw [if_neg h2, if_neg h2]
theorem versL (p : Pj) (l : List Coord) : lookM [] p (versOf l) = (l.filter fun c => decide (p = prj c)).map (·.version) := by
  have key : ∀ (n : Nat) (l : List Coord), l.length = n → lookM [] p (versOf l) = (l.filter fun c => decide (p = prj c)).map (·.version) := by
    intro n
    induction n with
    | zero => intro l hl; rw [List.eq_nil_of_length_eq_zero hl]; rfl
    | succ n ih =>
      intro l hl
      obtain ⟨r, c, rfl⟩ : ∃ r c, l = r ++ [c] := ⟨l.dropLast, l.getLast (by intro h; simp [h] at hl), (List.dropLast_concat_getLast _).symm⟩
      have hr : r.length = n := by simpa using hl
      rw [versOf_snoc, versT, lookM_upd, List.filter_append, List.map_append, ← ih r hr]
      by_cases h : p = prj c
      · subst h
        simp
      · simp [h]
  exact key l.length l rfl
theorem sortCo_perm (l : List Coord) : (sortCo l).Perm l := List.mergeSort_perm l _
theorem sortCo_pair (l : List Coord) : (sortCo l).Pairwise fun a b => coordC a b ≤ 0 := by
  have := List.pairwise_mergeSort (le := fun x y => !(ltOf coordC) y x) (fun a b c h1 h2 => by
    simp only [ltOf, Bool.not_eq_true', decide_eq_false_iff_not] at *
    have a1 := totCo.anti a b
    have a2 := totCo.anti b c
    have a3 := totCo.anti a c
    have := totCo.trans a b c (by omega) (by omega)
    omega) (fun a b => by
    simp only [ltOf, Bool.or_eq_true, Bool.not_eq_true', decide_eq_false_iff_not]
    have := totCo.anti a b
    omega) l
  refine List.Pairwise.imp (fun {a b} h => ?_) this
  simp only [ltOf, Bool.not_eq_true', decide_eq_false_iff_not] at h
  have := totCo.anti a b
  omega
theorem sortCo_same {a b : List Coord} (h : a.Perm b) : sortCo a = sortCo b :=
  List.Perm.eq_of_pairwise (fun x y _ _ h1 h2 => coordC_zero (by have := totCo.anti x y; omega)) (sortCo_pair a) (sortCo_pair b) (((sortCo_perm a).trans h).trans (sortCo_perm b).symm)


end Go.Proofs.Nw.K
end
section
/- ZL10: plain law IndexVersions. -/
open Go Go.RowKit Go.Proofs Go.Sort Go.Shelf
set_option linter.unusedVariables false
set_option linter.unusedSimpArgs false
namespace Go.Proofs.Nw.K

noncomputable local instance memDec (s : Str) (l : List Str) : Decidable (s ∈ l) := Classical.propDecidable _
theorem in_loop (n : Nat) (l : List Str) (s : Str) (hl : l.length ≤ 4194304) : ∀ (m i : Nat), i ≤ l.length → l.length < i + m → g_newelhelp_In_string.l14 n l s m (i : Int) = some (decide (s ∈ l.drop i))
  | 0, i, h1, h => by omega
  | m + 1, i, h1, h => by
    unfold g_newelhelp_In_string.l14 g_newelhelp_In_string.l14b
    rw [decN]
    by_cases hi : i < l.length
    · have hd : l.drop i = l[i] :: l.drop (i + 1) := List.drop_eq_getElem_cons hi
      have hg : l.getD (i : Int).toNat emp = l[i] := by simp [hi]
      rw [decide_eq_true hi, cond_true, chk_at hi, hg]
      by_cases he : l[i] = s
      · rw [he, beq_self_eq_true, cond_true, hd, he]
        simp
      · have : (l[i].toList == s.toList) = false := beq_eq_false_iff_ne.2 fun e => he (toList_inj.1 e)
        rw [this, cond_false, chk_t (in64_nat (by omega)), show (i : Int) + 1 = ((i + 1 : Nat) : Int) by omega, in_loop n l s hl m (i + 1) hi (by omega), hd]
        refine congrArg some (decide_eq_decide.2 ?_)
        rw [List.mem_cons]
        exact ⟨Or.inr, fun h => h.resolve_left fun e => he e.symm⟩
    · rw [decide_eq_false hi, cond_false]
      have : i = l.length := by omega
      subst this
      simp [g_newelhelp_In_string.k14]
theorem in_eq (n : Nat) (l : List Str) (s : Str) (hl : l.length ≤ 4194304) (hn : l.length < n) : g_newelhelp_In_string n l s = some (decide (s ∈ l)) :=
  in_loop n l s hl n 0 (Nat.zero_le _) (by omega)

/-! ### the numbers -/
def dV (m : Nat) : Str := (g_newelhelp_Digits 310 (m : Int)).getD emp
def ca (m : Nat) : Coord := ⟨⟨#[103]⟩, ⟨#[97]⟩, dV m⟩
def cb (m : Nat) : Coord := ⟨⟨#[103]⟩, ⟨#[98]⟩, dV m⟩
theorem dk0 : ((List.range 200).all fun m => (g_newelhelp_Digits 310 ((m + 1 : Nat) : Int)).isSome) = true := by kernel_rfl
theorem dk1 : ((List.range 200).all fun m => okC (ca (m + 1)) && okC (cb (m + 1))) = true := by kernel_rfl
theorem dk2 : ((List.range 199).all fun m => cmpV (dV (m + 1)) (dV (m + 2)) == -1) = true := by kernel_rfl
theorem dk3 : ((List.range 200).all fun m => decide ((dV (m + 1)).size ≤ 3)) = true := by kernel_rfl
theorem dV_some (m : Nat) (h : m < 200) : g_newelhelp_Digits 310 ((1 : Int) + (m : Int)) = some (dV (m + 1)) := by
  have h := List.all_eq_true.1 dk0 m (List.mem_range.2 h)
  obtain ⟨v, hv⟩ := Option.isSome_iff_exists.1 h
  rw [dV, hv, show (1 : Int) + (m : Int) = ((m + 1 : Nat) : Int) by omega, hv]
  rfl
theorem dV_size (m : Nat) (h1 : 1 ≤ m) (h2 : m ≤ 200) : (dV m).size ≤ 3 := by
  have h := List.all_eq_true.1 dk3 (m - 1) (List.mem_range.2 (by omega))
  rw [show m - 1 + 1 = m by omega] at h
  exact of_decide_eq_true h
theorem dV_ok (m : Nat) (h1 : 1 ≤ m) (h2 : m ≤ 200) : okC (ca m) = true ∧ okC (cb m) = true := by
  have h := List.all_eq_true.1 dk1 (m - 1) (List.mem_range.2 (by omega))
  rw [show m - 1 + 1 = m by omega] at h
  simpa using h
theorem dV_next (m : Nat) (h1 : 1 ≤ m) (h2 : m ≤ 199) : cmpV (dV m) (dV (m + 1)) = -1 := by
  have h := List.all_eq_true.1 dk2 (m - 1) (List.mem_range.2 (by omega))
  rw [show m - 1 + 1 = m by omega, show m - 1 + 2 = m + 1 by omega] at h
  simpa using h
theorem dV_lt (a : Nat) (ha : 1 ≤ a) : ∀ (d : Nat), a + d + 1 ≤ 200 → cmpV (dV a) (dV (a + d + 1)) = -1
  | 0, h => dV_next a ha (by omega)
  | d + 1, h => by
    have h1 := dV_lt a ha d (by omega)
    have h2 := dV_next (a + d + 1) (by omega) (by omega)
    have h3 := totV.lt_le (a := dV a) (b := dV (a + d + 1)) (d := dV (a + d + 1 + 1)) (by omega) (by omega)
    rcases totV.vals (dV a) (dV (a + d + 1 + 1)) with v | v | v
    · exact v
    · omega
    · omega
theorem dV_cmp (a b : Nat) (ha : 1 ≤ a ∧ a ≤ 200) (hb : 1 ≤ b ∧ b ≤ 200) (h : a < b) : cmpV (dV a) (dV b) = -1 := by
  obtain ⟨d, rfl⟩ : ∃ d, b = a + d + 1 := ⟨b - a - 1, by omega⟩
  exact dV_lt a ha.1 d hb.2
theorem dV_inj (a b : Nat) (ha : 1 ≤ a ∧ a ≤ 200) (hb : 1 ≤ b ∧ b ≤ 200) (h : dV a = dV b) : a = b := by
  rcases Nat.lt_trichotomy a b with h1 | h1 | h1
  · have := dV_cmp a b ha hb h1
    rw [h, totV.refl] at this
    omega
  · exact h1
  · have := dV_cmp b a hb ha h1
    rw [h, totV.refl] at this
    omega

/-! ### what is gathered -/
structure Inv (l : List Item) (js : List Nat) : Prop where
  rng : ∀ j ∈ js, 1 ≤ j ∧ j ≤ 200
  nd : js.Nodup
  from_ : ∀ it ∈ l, ∃ j ∈ js, it.coord = ca j ∨ it.coord = cb j
  uniq : (l.map (·.coord)).Nodup
  vers : ((l.map (·.coord)).filter fun c => decide ((((⟨#[103]⟩ : Str), (⟨#[97]⟩ : Str)) : Pj) = prj c)).map (·.version) = js.map dV
  len : l.length ≤ 2 * js.length
theorem ab_ne : ((⟨#[97]⟩ : Str) = ⟨#[98]⟩) = False := by
  refine eq_false ?_
  intro h
  have := congrArg (fun s : Str => s.data) h
  simp at this
theorem ca_cb (i j : Nat) : ca i ≠ cb j := fun h => by
  have := congrArg Coord.name h
  simp only [ca, cb] at this
  rw [ab_ne] at this
  exact this
theorem Inv.nil : Inv [] [] where
  rng := fun j h => by cases h
  nd := List.nodup_nil
  from_ := fun it h => by cases h
  uniq := List.nodup_nil
  vers := rfl
  len := Nat.le_refl _
theorem Inv.add {l : List Item} {js : List Nat} (h : Inv l js) (j : Nat) (hj : 1 ≤ j ∧ j ≤ 200) (hn : j ∉ js) : Inv (l ++ [⟨ca j, emp⟩]) (js ++ [j]) where
  rng := fun x hx => by
    rcases List.mem_append.1 hx with hx | hx
    · exact h.rng x hx
    · simp at hx; subst hx; exact hj
  nd := by
    rw [List.nodup_append]
    exact ⟨h.nd, by simp, fun a ha b hb e => by simp at hb; subst hb e; exact hn ha⟩
  from_ := fun it hi => by
    rcases List.mem_append.1 hi with hi | hi
    · obtain ⟨x, hx, e⟩ := h.from_ it hi
      exact ⟨x, by simp [hx], e⟩
    · simp at hi; subst hi; exact ⟨j, by simp, .inl rfl⟩
  uniq := by
    rw [List.map_append, List.nodup_append]
    refine ⟨h.uniq, by simp, fun a ha b hb e => ?_⟩
    simp at hb
    subst hb e
    obtain ⟨it, hi, he⟩ := List.mem_map.1 ha
    obtain ⟨x, hx, e⟩ := h.from_ it hi
    rcases e with e | e
    · have := dV_inj j x hj (h.rng x hx) (congrArg Coord.version (he.symm.trans e))
      subst this
      exact hn hx
    · exact ca_cb _ _ (he.symm.trans e)
  vers := by
    rw [List.map_append, List.filter_append, List.map_append, h.vers, List.map_append]
    congr 1
  len := by have := h.len; simp; omega
theorem Inv.more {l : List Item} {js : List Nat} {j : Nat} (h : Inv (l ++ [⟨ca j, emp⟩]) (js ++ [j])) (h0 : Inv l js) (hn : j ∉ js) : Inv (l ++ [⟨ca j, emp⟩] ++ [⟨cb j, emp⟩]) (js ++ [j]) where
  rng := h.rng
  nd := h.nd
  from_ := fun it hi => by
    rcases List.mem_append.1 hi with hi | hi
    · exact h.from_ it hi
    · simp at hi; subst hi; exact ⟨j, by simp, .inr rfl⟩
  uniq := by
    rw [List.map_append, List.nodup_append]
    refine ⟨h.uniq, by simp, fun a ha b hb e => ?_⟩
    simp at hb
    subst hb e
    obtain ⟨it, hi, he⟩ := List.mem_map.1 ha
    rcases List.mem_append.1 hi with hi | hi
    · obtain ⟨x, hx, e⟩ := h0.from_ it hi
      rcases e with e | e
      · exact ca_cb _ _ (e.symm.trans he)
      · have := dV_inj j x (h.rng j (by simp)) (h0.rng x hx) (congrArg Coord.version (he.symm.trans e))
        subst this
        exact hn hx
    · simp at hi; subst hi; exact ca_cb _ _ he
  vers := by
    rw [List.map_append, List.filter_append, List.map_append, h.vers]
    have : ¬ ((((⟨#[103]⟩ : Str), (⟨#[97]⟩ : Str)) : Pj) = prj (cb j)) := by
      simp only [prj, cb, Prod.mk.injEq, ab_ne, and_false, not_false_eq_true]
    simp [this]
  len := by have := h0.len; simp; omega
theorem Inv.newE {l : List Item} {js : List Nat} (h : Inv l js) (hj : js.length ≤ 30) : newE okC l = 0 := by
  rw [newE_zero]
  have := h.len
  refine ⟨by omega, fun it hi => ?_, h.uniq⟩
  obtain ⟨j, hx, e⟩ := h.from_ it hi
  have := dV_ok j (h.rng j hx).1 (h.rng j hx).2
  rcases e with e | e
  · rw [e]; exact this.1
  · rw [e]; exact this.2

theorem vers_walk (n : Nat) (hn : 40 ≤ n) (js : List Nat) (hr : ∀ j ∈ js, 1 ≤ j ∧ j ≤ 200) (hnd : js.Nodup) (hj : js.length ≤ 30) (y : IxT × Int) (hk : g_newellaw13_IndexVersions.k107 n y = some true) :
    ∀ (f i : Nat), i ≤ js.length → js.length < i + f → g_newellaw13_IndexVersions.l107 n (js.map dV) y (sortV (js.map dV)) f (i : Int) = some true
  | 0, i, h1, h2 => by omega
  | f + 1, i, h1, h2 => by
    have hlen : (sortV (js.map dV)).length = js.length := by rw [sortV_length, List.length_map]
    have hp := sortV_perm2 (js.map dV)
    have hnd2 : (sortV (js.map dV)).Nodup := by
      refine hp.nodup_iff.2 ?_
      rw [List.nodup_iff_pairwise_ne, List.pairwise_map]
      exact List.Pairwise.imp_of_mem (fun {a b} ha hb hab he => hab (dV_inj a b (hr a ha) (hr b hb) he)) hnd
    unfold g_newellaw13_IndexVersions.l107 g_newellaw13_IndexVersions.l107b
    rw [decN]
    by_cases hi : i < (sortV (js.map dV)).length
    · have hg : (sortV (js.map dV)).getD (i : Int).toNat emp = (sortV (js.map dV))[i] := by simp [hi]
      have hm : (sortV (js.map dV))[i] ∈ js.map dV := hp.mem_iff.1 (List.getElem_mem hi)
      rw [decide_eq_true hi, cond_true, chk_at hi, hg, in_eq n _ _ (by rw [List.length_map]; omega) (by rw [List.length_map]; omega), Option.bind_some, decide_eq_true hm, Bool.not_true, cond_false]
      by_cases h0 : (i : Int) > 0
      · have hi' : i - 1 < (sortV (js.map dV)).length := by omega
        have hg' : (sortV (js.map dV)).getD ((i : Int) - 1).toNat emp = (sortV (js.map dV))[i - 1] := by
          rw [show ((i : Int) - 1).toNat = i - 1 by omega, List.getD_eq_getElem?_getD, List.getElem?_eq_getElem hi']; rfl
        have hm' : (sortV (js.map dV))[i - 1] ∈ js.map dV := hp.mem_iff.1 (List.getElem_mem hi')
        have hw := List.pairwise_iff_getElem.1 (sortV_pair2 (js.map dV)) (i - 1) i hi' hi (by omega)
        have hne := List.pairwise_iff_getElem.1 (List.nodup_iff_pairwise_ne.1 hnd2) (i - 1) i hi' hi (by omega)
        obtain ⟨a, ha, ea⟩ := List.mem_map.1 hm'
        obtain ⟨b, hb, eb⟩ := List.mem_map.1 hm
        have ra := hr a ha
        have rb := hr b hb
        rw [decide_eq_true h0, cond_true, chk_t (by unfold in64; omega), chk_t ⟨by omega, by omega⟩, chk_at hi, hg', ← ea, ← eb]
        rw [← ea, ← eb] at hw hne
        have s1 := dV_size a ra.1 ra.2
        have s2 := dV_size b rb.1 rb.2
        have hc : cmpV (dV a) (dV b) = -1 := by
          rcases Nat.lt_trichotomy a b with h3 | h3 | h3
          · exact dV_cmp a b ra rb h3
          · exact absurd (congrArg dV h3) hne
          · have h4 := dV_cmp b a rb ra h3
            have h5 := totV.anti (dV a) (dV b)
            unfold wholeC at hw
            rw [if_pos (by omega)] at hw
            omega
        rw [rCompare_eq n _ _ (by omega) (by omega) (by omega) (by omega), Option.bind_some, hc, decide_eq_false (by decide), cond_false, chk_t (in64_nat (by omega)), show (i : Int) + 1 = ((i + 1 : Nat) : Int) by omega]
        exact vers_walk n hn js hr hnd hj y hk f (i + 1) (by omega) (by omega)
      · rw [decide_eq_false h0, cond_false, chk_t (in64_nat (by omega)), show (i : Int) + 1 = ((i + 1 : Nat) : Int) by omega]
        exact vers_walk n hn js hr hnd hj y hk f (i + 1) (by omega) (by omega)
    · rw [decide_eq_false hi, cond_false]
      exact hk
theorem vers_k66 (l : List Item) (js : List Nat) (h : Inv l js) (hj : js.length ≤ 30) (v w : Nat) : g_newellaw13_IndexVersions.k66 310 l v (js.map dV) w = some true := by
  have hE := h.newE hj
  have hR : newR l = some l := by unfold newR; rw [if_pos hE]
  have hV : versI ((⟨#[103]⟩ : Str), (⟨#[97]⟩ : Str)) (newR l) = sortV (js.map dV) := by
    rw [hR]
    show sortV (lookM [] _ (versOf (l.map (·.coord)))) = _
    rw [versL, h.vers]
  have hC : versI ((⟨#[103]⟩ : Str), (⟨#[99]⟩ : Str)) (newR l) = [] := by
    rw [hR]
    show sortV (lookM [] _ (versOf (l.map (·.coord)))) = _
    rw [versL]
    have : ((l.map (·.coord)).filter fun c => decide ((((⟨#[103]⟩ : Str), (⟨#[99]⟩ : Str)) : Pj) = prj c)) = [] := by
      rw [List.filter_eq_nil_iff]
      intro c hc hd
      have hd := of_decide_eq_true hd
      obtain ⟨it, hi, rfl⟩ := List.mem_map.1 hc
      obtain ⟨j, _, e⟩ := h.from_ it hi
      have h2 := congrArg (fun p : Pj => p.2.data) hd
      rcases e with e | e <;> (rw [e] at h2; simp [prj, ca, cb] at h2)
    rw [this]
    simp [sortV]
  unfold g_newellaw13_IndexVersions.k66 g_index_New g_newellaw13_awake
  rw [Option.bind_some]
  show ((g_index_Index_Versions 310 (ixNew l) ⟨#[103]⟩ ⟨#[97]⟩).bind fun y72 => _) = some true
  rw [show g_index_Index_Versions 310 (ixNew l) ⟨#[103]⟩ ⟨#[97]⟩ = some (sortV (js.map dV)) from congrArg some hV, Option.bind_some, Option.bind_some, Bool.not_true, cond_false]
  show (bif (newE okC l != 0) then some false else _) = some true
  rw [hE, show ((0 : Int) != 0) = false from rfl, cond_false, sortV_length, show (((js.map dV).length : Int) != ((js.map dV).length : Int)) = false by simp, cond_false]
  show ((g_index_Index_Len 310 (ixNew l)).bind fun y83 => _) = some true
  rw [show g_index_Index_Len 310 (ixNew l) = some (l.length : Int) from congrArg some (by show lenI (newR l) = _; rw [hR]; rfl), Option.bind_some, show ((l.length : Int) != (l.length : Int)) = false by simp, cond_false]
  refine vers_walk 310 (by decide) js h.rng h.nd hj _ ?_ 310 0 (Nat.zero_le _) (by omega)
  unfold g_newellaw13_IndexVersions.k107
  show ((g_index_Index_Versions 310 (ixNew l) ⟨#[103]⟩ ⟨#[99]⟩).bind fun y108 => _) = some true
  rw [show g_index_Index_Versions 310 (ixNew l) ⟨#[103]⟩ ⟨#[99]⟩ = some [] from congrArg some hC]
  rfl
theorem vers_loop (t o : List Int) : ∀ (f i : Nat) (l : List Item) (js : List Nat) (v w : Nat), i ≤ 30 → 30 < i + f → Inv l js → js.length ≤ i → g_newellaw13_IndexVersions.l66 310 t o f l v (js.map dV) w (i : Int) = some true
  | 0, i, l, js, v, w, h1, h2, _, _ => by omega
  | f + 1, i, l, js, v, w, h1, h2, hI, hj => by
    have hk := vers_k66 l js hI (by omega) v w
    unfold g_newellaw13_IndexVersions.l66 g_newellaw13_IndexVersions.l66b
    rw [decN]
    by_cases c1 : i < t.length
    · rw [decide_eq_true c1, cond_true]
      by_cases c2 : (i : Int) < 30
      · obtain ⟨m, hm, _, e⟩ := modN2 (t.getD (i : Int).toNat (0 : Int)) 200 (by decide) (by decide)
        have e : IntKind.wrap .i64 ((IntKind.wrap .u64 (t.getD (i : Int).toNat (0 : Int))).tmod 200) = (m : Int) := e
        have hlen := hI.len
        rw [decide_eq_true c2, cond_true, chk_at c1, e, chk_t (by unfold in64; omega), dV_some m hm, Option.bind_some, in_eq 310 _ _ (by rw [List.length_map]; omega) (by rw [List.length_map]; omega), Option.bind_some]
        by_cases c3 : dV (m + 1) ∈ js.map dV
        · rw [decide_eq_true c3, cond_true, chk_t (in64_nat (by omega)), show (i : Int) + 1 = ((i + 1 : Nat) : Int) by omega]
          exact vers_loop t o f (i + 1) l js v w (by omega) (by omega) hI (by omega)
        · have hnj : m + 1 ∉ js := fun h => c3 (List.mem_map.2 ⟨_, h, rfl⟩)
          have hA := hI.add (m + 1) ⟨by omega, by omega⟩ hnj
          have hB := hA.more hI hnj
          have hS : js.map dV ++ [dV (m + 1)] = (js ++ [m + 1]).map dV := by simp
          rw [decide_eq_false c3, cond_false, chk_t (by unfold room; simp; omega), chk_t (by unfold room; simp; omega)]
          by_cases c4 : (i : Int) < (o.length : Int)
          · rw [decide_eq_true c4, cond_true, chk_t (by unfold room; simp; omega), chk_t (in64_nat (by omega)), show (i : Int) + 1 = ((i + 1 : Nat) : Int) by omega, hS]
            exact vers_loop t o f (i + 1) _ (js ++ [m + 1]) _ _ (by omega) (by omega) hB (by simp; omega)
          · rw [decide_eq_false c4, cond_false, chk_t (in64_nat (by omega)), show (i : Int) + 1 = ((i + 1 : Nat) : Int) by omega, hS]
            exact vers_loop t o f (i + 1) _ (js ++ [m + 1]) _ _ (by omega) (by omega) hA (by simp; omega)
      · rw [decide_eq_false c2, cond_false]; exact hk
    · rw [decide_eq_false c1, cond_false]; exact hk
theorem indexVersions_eq (t o : List Int) : g_newellaw13_IndexVersions 310 t o = some true :=
  vers_loop t o 310 0 [] [] 0 0 (by omega) (by omega) Inv.nil (Nat.le_refl _)
theorem IndexVersions_impl (t o : List Int) (_ : t.length ≤ maxLen ∧ ∀ s ∈ t, isInt s) (_ : o.length ≤ maxLen ∧ ∀ s ∈ o, isInt s) (h : (t.map (fun _ => 1)).sum + 1 + ((o.map (fun _ => 1)).sum + 1) ≤ 1048576) :
    Impl Tryz.prog 3 [.one (.tl Int 1 encInt (0 : Int) t), .one (.tl Int 1 encInt (0 : Int) o)] [.one (.sc (.bool true))] :=
  g_newellaw13_IndexVersions.ok 310 t o true (indexVersions_eq t o)
end Go.Proofs.Nw.K
end
