/- Bundle 14: NwQI4, NwQI5, NwQI6, NwQL1, NwQI7, NwQP8, NwQI8, NwQPA, NwQL0, NwQL10. -/
import Derived.Test.YtblenipidihemaaDoorNwA13
section
/- QI4: what may be a coord. -/
open Go Go.RowKit Go.Proofs
set_option linter.unusedVariables false
set_option linter.unusedSimpArgs false
set_option maxHeartbeats 1000000
namespace Go.Proofs.Nw.K

def idxB (s : Str) (c : Int) : Int := Lib.indexByte s.data.toList c.toNat.toUInt8
theorem IndexByte_impl (s : Str) (c : Int) : Impl Tryd.prog 114 [.one (dstr s), .one (dbyte c)] [.one (dint (idxB s c))] := by
  refine impl_wp tabOk Tryd.func114 rfl rfl (by kernel_rfl) ?_
  refine WP_seq ?_
  refine vcc_sound _ _ _ tabOk (by exact rfl) ?_
  refine WP_seq ?_
  refine WP_region ?_
  refine stepW tabOk rfl ?_
  refine stepW tabOk rfl ?_
  refine stepO rfl (op_idxByte (.func 121) (.tmp 5) (.tmp 6) _ 121 _ Tryd.func121 (by kernel_rfl) (by kernel_rfl) (by kernel_rfl) (by kernel_rfl) s c rfl rfl rfl) ?_
  refine stepW tabOk rfl ?_
  refine WPL_nil ?_
  refine WP_ret ?_
  exact ⟨DLe.refl _, trivial⟩
theorem SIndexByte_impl (s : Str) (c : Int) : Impl Tryd.prog 99 [.one (dstr s), .one (dbyte c)] [.one (dint (idxB s c))] := by
  refine impl_wp tabOk Tryd.func99 rfl rfl (by kernel_rfl) ?_
  refine WP_seq ?_
  refine vcc_sound _ _ _ tabOk (by exact rfl) ?_
  refine WP_seq ?_
  refine vcc_sound _ _ _ tabOk (by exact rfl) ?_
  refine CallD.mk _ _ (IndexByte_impl s c) (by exact ⟨DLe.refl _, DLe.refl _, trivial⟩) ?_
  refine WP_ret ?_
  exact ⟨DLe.refl _, trivial⟩
def brk : Str := ⟨#[91, 93, 40, 41, 44]⟩
def badB (c : Int) : Bool := bif decide (c < 33) then true else bif decide (c > 126) then true else decide (idxB brk c ≥ 0)
theorem Right1_impl (c : Int) : Impl Tryd.prog 98 [.one (dbyte c)] [.one (dbool (badB c))] := by
  refine impl_wp tabOk Tryd.func98 rfl rfl (by kernel_rfl) ?_
  refine WP_seq ?_
  refine vcc_sound _ _ _ tabOk (by exact rfl) ?_
  refine WP_seq ?_
  refine vcc_sound _ _ _ tabOk (by exact rfl) ?_
  refine Br.mk (fun hb => ?_) (fun hb => ?_)
  · have e : badB c = true := by unfold badB; rw [show decide (c < 33) = true from hb]; rfl
    rw [e]
    repeat (first | refine Br.t ?_ | refine Br.f ?_)
    refine WP_ret ?_
    exact ⟨DLe.refl _, trivial⟩
  repeat (first | refine Br.t ?_ | refine Br.f ?_)
  refine Br.mk (fun hb2 => ?_) (fun hb2 => ?_)
  · have e : badB c = true := by unfold badB; rw [show decide (c < 33) = false from hb, show decide (c > 126) = true from hb2]; rfl
    rw [e]
    repeat (first | refine Br.t ?_ | refine Br.f ?_)
    refine WP_ret ?_
    exact ⟨DLe.refl _, trivial⟩
  have e : badB c = decide (idxB brk c ≥ 0) := by unfold badB; rw [show decide (c < 33) = false from hb, show decide (c > 126) = false from hb2]; rfl
  rw [e]
  repeat (first | refine Br.t ?_ | refine Br.f ?_)
  refine CallD.mk _ _ (SIndexByte_impl brk c) (by exact ⟨DLe.refl _, DLe.refl _, trivial⟩) ?_
  repeat (first | refine Br.t ?_ | refine Br.f ?_)
  refine WP_ret ?_
  exact ⟨DLe.refl _, trivial⟩

def idxF : List Int → Int → Int
  | [], _ => -1
  | c :: r, i => bif badB c then i else idxF r (i + 1)
theorem idxF_any : ∀ (l : List Int) (i : Int), 0 ≤ i → decide (idxF l i ≥ 0) = l.any badB
  | [], i, h => by simp [idxF]
  | c :: r, i, h => by
    unfold idxF
    cases hb : badB c with
    | true => simp [hb, h]
    | false => simp only [hb, cond_false, List.any_cons, Bool.false_or]; exact idxF_any r (i + 1) (by omega)
theorem IndexFunc_impl (l : List Int) (hl : l.length ≤ 4194304) : Impl Tryd.prog 113 [.one (.tl Int 1 encByte 0 l), .one (.sc (.func (.func 98) #[] #[]))] [.one (dint (idxF l 0))] := by
  refine impl_wp tabOk Tryd.func113 rfl rfl (by kernel_rfl) ?_
  refine WP_seq ?_
  refine vcc_sound _ _ _ tabOk (by exact rfl) ?_
  refine WP_seq ?_
  refine WP_seq ?_
  refine vcc_sound _ _ _ tabOk (by exact rfl) ?_
  refine WP_cutQ (α := {u : Unit // idxF l 0 = -1}) (fun _ => ofL []) (fun _ => []) (WP_block (WP_loop (α := {j : Nat // j ≤ l.length ∧ idxF l 0 = idxF (l.drop j) j}) (fun j => ofL [(0, .d (.tl Int 1 encByte 0 l)), (1, .v (.one (.sc (.func (.func 98) #[] #[])))), (7, .int (l.length : Int)), (8, .int ((j.1 : Nat) : Int))]) (fun j => []) (fun j => l.length - j.1) ⟨0, Nat.zero_le _, rfl⟩ (Sub.ofL _ _ (Nat.zero_le _) ⟨rfl, rfl, rfl, rfl, rfl, rfl, rfl, rfl, trivial⟩ rfl rfl) ?_)) ?_
  rotate_left
  · rintro ⟨⟨⟩, hE⟩ env st hs
    rw [hE]
    refine WP_sub hs ?_
    refine WP_seq ?_
    refine vcc_sound _ _ _ tabOk (by exact rfl) ?_
    refine WP_ret ?_
    exact ⟨DLe.refl _, trivial⟩
  rintro ⟨j, hj, hE⟩
  dsimp only
  refine WP_seq ?_
  refine vcc_sound _ _ _ tabOk (by exact rfl) ?_
  refine WP_seq ?_
  refine vcc_sound _ _ _ tabOk (by exact rfl) ?_
  refine Br.mk (fun hb => ?_) (fun hb => ?_)
  · have hjl : j < l.length := by have := of_decide_eq_true (show decide (((j : Nat) : Int) < ((l.length : Nat) : Int)) = true from hb); omega
    have hd : l.drop j = l[j] :: l.drop (j + 1) := List.drop_eq_getElem_cons hjl
    have hE2 : idxF l 0 = bif badB l[j] then (j : Int) else idxF (l.drop (j + 1)) ((j + 1 : Nat) : Int) := by rw [hE, hd]; rfl
    have hg : l.getD j 0 = l[j] := by simp [hjl]
    refine vcc_sound _ _ _ tabOk (by exact rfl) ?_
    refine WP_seq ?_
    refine WP_block ?_
    refine WP_seq ?_
    refine vcc_sound _ _ _ tabOk (by exact rfl) ?_
    refine WP_seq ?_
    refine vcc_sound _ _ _ tabOk (by exact rfl) ?_
    refine Ob.mk (by exact ⟨by omega, by omega⟩) ?_
    refine CallD.mk _ _ (Right1_impl (l.getD (((j : Nat) : Int)).toNat 0)) (by exact ⟨DLe.refl _, trivial⟩) ?_
    rw [Int.toNat_natCast, hg]
    refine vcc_sound _ _ _ tabOk (by exact rfl) ?_
    refine Br.mk (fun hb2 => ?_) (fun hb2 => ?_)
    · rw [hE2, show badB l[j] = true from hb2, cond_true]
      refine WP_seq ?_
      refine vcc_sound _ _ _ tabOk (by exact rfl) ?_
      refine WP_ret ?_
      exact ⟨DLe.refl _, trivial⟩
    · refine WP_skip ?_
      refine vcc_sound _ _ _ tabOk (by exact rfl) ?_
      refine Ob.mk (by exact ⟨by omega, by omega⟩) ?_
      rw [show badB l[j] = false from hb2, cond_false] at hE2
      exact ⟨⟨j + 1, hjl, hE2⟩, by show l.length - (j + 1) < l.length - j; omega, Sub.ofL _ _ (Nat.zero_le _) ⟨rfl, rfl, rfl, rfl, rfl, rfl, congrArg AV.int (show ((j : Nat) : Int) + 1 = ((j + 1 : Nat) : Int) by omega), rfl, trivial⟩ rfl rfl⟩
  · have hjl : j = l.length := by have := of_decide_eq_false (show decide (((j : Nat) : Int) < ((l.length : Nat) : Int)) = false from hb); omega
    subst hjl
    refine vcc_sound _ _ _ tabOk (by exact rfl) ?_
    exact ⟨⟨(), by rw [hE, List.drop_length]; rfl⟩, Sub.ofL _ _ (Nat.zero_le _) trivial rfl rfl⟩
end Go.Proofs.Nw.K
end
section
/- QI5: coord.Right. -/
open Go Go.RowKit Go.Proofs
set_option linter.unusedVariables false
set_option linter.unusedSimpArgs false
set_option maxHeartbeats 1000000
namespace Go.Proofs.Nw.K

theorem ContainsFunc_impl (l : List Int) (hl : l.length ≤ 4194304) : Impl Tryd.prog 97 [.one (.tl Int 1 encByte 0 l), .one (.sc (.func (.func 98) #[] #[]))] [.one (dbool (l.any badB))] := by
  refine impl_wp tabOk Tryd.func97 rfl rfl (by kernel_rfl) ?_
  refine WP_seq ?_
  refine vcc_sound _ _ _ tabOk (by exact rfl) ?_
  refine WP_seq ?_
  refine vcc_sound _ _ _ tabOk (by exact rfl) ?_
  refine CallD.mk _ _ (IndexFunc_impl l hl) (by exact ⟨DLe.refl _, DLe.refl _, trivial⟩) ?_
  rw [← idxF_any l 0 (Int.le_refl _)]
  refine WP_ret ?_
  exact ⟨DLe.refl _, trivial⟩

def rightW (v : Str) : Bool := bif decide ((v.size : Int) ≥ 1) then (bif decide ((v.size : Int) ≤ 100) then !((bytesI v).any badB) else false) else false
theorem WRight_impl (v : Str) : Impl Tryd.prog 69 [.one (dstr v)] [.one (dbool (rightW v))] := by
  have hM : (100 : Nat) ≤ maxLen := by decide
  refine impl_wp tabOk Tryd.func69 rfl rfl (by kernel_rfl) ?_
  refine WP_seq ?_
  refine vcc_sound _ _ _ tabOk (by exact rfl) ?_
  refine WP_seq ?_
  by_cases h1 : (v.size : Int) ≥ 1
  · by_cases h2 : (v.size : Int) ≤ 100
    · have e1 := decide_eq_true h1
      have e2 := decide_eq_true h2
      have e : rightW v = !((bytesI v).any badB) := by unfold rightW; rw [e1, e2]; rfl
      rw [e]
      refine WP_region ?_
      refine stepW tabOk rfl ?_
      refine stepW tabOk rfl ?_
      refine stepW tabOk rfl ?_
      refine stepW tabOk rfl ?_
      refine stepG tabOk rfl rfl rfl (ltb rfl) (congrArg AV.bool e1) ?_
      refine stepG tabOk rfl rfl rfl (ltb rfl) (congrArg AV.bool e1) ?_
      refine stepG tabOk rfl rfl rfl (ltb rfl) (congrArg AV.bool e1) ?_
      refine stepW tabOk rfl ?_
      refine Br.yes e1 ?_
      refine stepW tabOk rfl ?_
      refine stepG tabOk rfl rfl rfl (ltb rfl) (congrArg AV.bool e2) ?_
      refine stepGN rfl rfl rfl (ltb rfl) (congrArg AV.bool e2) ((op_str2bytesD 9 64 5 (.tmp 12) v (tabOk.kstr 9 rfl) (tabOk.kslice 64 5 rfl) (tabOk.kint 5 .u8 rfl) rfl (by omega) (by omega)).n ?_)
      refine stepG tabOk rfl rfl rfl (ltb rfl) (congrArg AV.bool e2) ?_
      refine CallD.mk _ _ (ContainsFunc_impl (bytesI v) (by rw [bytesI_length]; omega)) (by exact ⟨DLe.refl _, DLe.refl _, trivial⟩) ?_
      refine stepG tabOk rfl rfl rfl (ltb rfl) (congrArg AV.bool e2) ?_
      refine stepW tabOk rfl ?_
      refine Br.yes e2 ?_
      refine stepW tabOk rfl ?_
      refine WPL_nil ?_
      refine WP_ret ?_
      exact ⟨DLe.refl _, trivial⟩
    · have e : rightW v = false := by unfold rightW; rw [decide_eq_true h1, decide_eq_false h2]; rfl
      rw [e]
      refine vcc_sound _ _ _ tabOk (by exact rfl) ?_
      refine Br.yes (decide_eq_true h1) ?_
      repeat (first | refine Br.t ?_ | refine Br.f ?_)
      refine Br.no (decide_eq_false h2) ?_
      repeat (first | refine Br.t ?_ | refine Br.f ?_)
      refine WP_ret ?_
      exact ⟨DLe.refl _, trivial⟩
  · have e : rightW v = false := by unfold rightW; rw [decide_eq_false h1]; rfl
    rw [e]
    refine vcc_sound _ _ _ tabOk (by exact rfl) ?_
    refine Br.no (decide_eq_false h1) ?_
    repeat (first | refine Br.t ?_ | refine Br.f ?_)
    refine WP_ret ?_
    exact ⟨DLe.refl _, trivial⟩

def colonS : Str := ⟨#[58]⟩
theorem Index1_impl (v : Str) (hv : v.size ≤ 100) : Impl Tryd.prog 115 [.one (dstr v), .one (dstr colonS)] [.one (dint (idxB v 58))] := by
  refine impl_wp tabOk Tryd.func115 rfl rfl (by kernel_rfl) ?_
  refine WP_seq ?_
  refine vcc_sound _ _ _ tabOk (by exact rfl) ?_
  refine WP_seq ?_
  refine vcc_sound _ _ _ tabOk (by exact rfl) ?_
  refine WP_seq ?_
  refine WP_block ?_
  refine WP_seq ?_
  refine vcc_sound _ _ _ tabOk (by exact rfl) ?_
  repeat (first | refine Br.t ?_ | refine Br.f ?_)
  refine vcc_sound _ _ _ tabOk (by exact rfl) ?_
  refine Br.mk (fun hb => ?_) (fun hb => ?_)
  · have hv1 : colonS.toList = v.toList := by
      have : (colonS.toList == v.toList) = true := hb
      simpa using this
    have e : idxB v 58 = 0 := by
      unfold idxB
      rw [ByteArray.toList_eq, ByteArray.toList_eq] at hv1
      rw [← hv1]
      rfl
    rw [e]
    refine WP_seq ?_
    refine vcc_sound _ _ _ tabOk (by exact rfl) ?_
    refine WP_ret ?_
    exact ⟨DLe.refl _, trivial⟩
  refine WP_seq ?_
  refine vcc_sound _ _ _ tabOk (by exact rfl) ?_
  refine vcc_sound _ _ _ tabOk (by exact rfl) ?_
  refine Br.t ?_
  refine WP_seq ?_
  refine vcc_sound _ _ _ tabOk (by exact rfl) ?_
  refine Ob.mk (by exact ⟨by decide, by decide⟩) ?_
  refine CallD.mk _ _ (IndexByte_impl v 58) (by exact ⟨DLe.refl _, DLe.refl _, trivial⟩) ?_
  refine WP_ret ?_
  exact ⟨DLe.refl _, trivial⟩
theorem SIndex1_impl (v : Str) (hv : v.size ≤ 100) : Impl Tryd.prog 100 [.one (dstr v), .one (dstr colonS)] [.one (dint (idxB v 58))] := by
  refine impl_wp tabOk Tryd.func100 rfl rfl (by kernel_rfl) ?_
  refine WP_seq ?_
  refine vcc_sound _ _ _ tabOk (by exact rfl) ?_
  refine WP_seq ?_
  refine vcc_sound _ _ _ tabOk (by exact rfl) ?_
  refine CallD.mk _ _ (Index1_impl v hv) (by exact ⟨DLe.refl _, DLe.refl _, trivial⟩) ?_
  refine WP_ret ?_
  exact ⟨DLe.refl _, trivial⟩
theorem Contains1_impl (v : Str) (hv : v.size ≤ 100) : Impl Tryd.prog 70 [.one (dstr v), .one (dstr colonS)] [.one (dbool (decide (idxB v 58 ≥ 0)))] := by
  refine impl_wp tabOk Tryd.func70 rfl rfl (by kernel_rfl) ?_
  refine WP_seq ?_
  refine vcc_sound _ _ _ tabOk (by exact rfl) ?_
  refine WP_seq ?_
  refine vcc_sound _ _ _ tabOk (by exact rfl) ?_
  refine CallD.mk _ _ (SIndex1_impl v hv) (by exact ⟨DLe.refl _, DLe.refl _, trivial⟩) ?_
  refine WP_ret ?_
  exact ⟨DLe.refl _, trivial⟩
end Go.Proofs.Nw.K
end
section
/- QI6: coord.Right, and index.New as it is. -/
open Go Go.RowKit Go.Proofs
set_option linter.unusedVariables false
set_option linter.unusedSimpArgs false
set_option maxHeartbeats 1000000
namespace Go.Proofs.Nw.K

theorem ex_bif {α : Type} {b : Bool} {x y : Option α} (h1 : ∃ r, x = some r) (h2 : ∃ r, y = some r) : ∃ r, (bif b then x else y) = some r := by cases b with | true => exact h1 | false => exact h2
theorem letter_total (n : Nat) (c : Int) : ∃ r, g_coord_letter n c = some r := by
  unfold g_coord_letter
  repeat (first | exact ⟨_, rfl⟩ | refine ex_bif ?_ ?_)
theorem Id_loop (n : Nat) : ∀ (m : Nat) (s : Str), 0 < s.size → s.size ≤ m → ∃ r, g_coord_Id.l24 n m s = some r
  | 0, s, h0, hm => by omega
  | m + 1, s, h0, hm => by
    unfold g_coord_Id.l24 g_coord_Id.l24b
    rw [chk_t (by omega)]
    obtain ⟨b, hb⟩ := letter_total n (byteAt s 0)
    rw [hb, Option.bind_some, chk_t (by omega)]
    refine ex_bif ⟨_, rfl⟩ ?_
    cases he : (!((s.extract 1 s.size).toList == emp.toList)) with
    | false => exact ⟨_, rfl⟩
    | true =>
      have hs : (s.extract 1 s.size).size = s.size - 1 := by simp
      refine Id_loop n m _ ?_ (by omega)
      by_cases hz : 0 < (s.extract 1 s.size).size
      · exact hz
      · exfalso
        have h1 : (s.extract 1 s.size).toList = emp.toList := by
          rw [ByteArray.toList_eq, ByteArray.toList_eq]
          have : (s.extract 1 s.size).data.size = 0 := by
            have : (s.extract 1 s.size).size = 0 := by omega
            exact this
          rw [Array.eq_empty_of_size_eq_zero this]
          rfl
        rw [h1] at he
        simp at he
def idC (s : Str) : Bool := (g_coord_Id 600 s).getD false
theorem Id_total (s : Str) : g_coord_Id 600 s = some (idC s) := by
  have : ∃ r, g_coord_Id 600 s = some r := by
    unfold g_coord_Id
    cases h1 : (s.toList == emp.toList) with
    | true => exact ⟨_, rfl⟩
    | false =>
      cases h2 : decide ((s.size : Int) > 500) with
      | true => exact ⟨_, rfl⟩
      | false =>
        have h2 := of_decide_eq_false h2
        refine Id_loop 600 600 s ?_ (by omega)
        by_cases hz : 0 < s.size
        · exact hz
        · exfalso
          have h3 : s.toList = emp.toList := by
            rw [ByteArray.toList_eq, ByteArray.toList_eq]
            have : s.data.size = 0 := by
              have : s.size = 0 := by omega
              exact this
            rw [Array.eq_empty_of_size_eq_zero this]
            rfl
          rw [h3] at h1
          simp at h1
  obtain ⟨r, h⟩ := this
  unfold idC
  rw [h]
  rfl
theorem Id_impl (s : Str) : Impl Tryd.prog 68 [.one (dstr s)] [.one (dbool (idC s))] := g_coord_Id.ok 600 s _ (Id_total s)

def okC (c : Coord) : Bool := bif idC c.group then (bif idC c.name then (bif rightW c.version then !(decide (idxB c.version 58 ≥ 0)) else false) else false) else false
theorem rightW_size {v : Str} (h : rightW v = true) : v.size ≤ 100 := by
  unfold rightW at h
  cases h1 : decide ((v.size : Int) ≥ 1) with
  | false => rw [h1] at h; cases h
  | true =>
    rw [h1, cond_true] at h
    cases h2 : decide ((v.size : Int) ≤ 100) with
    | false => rw [h2] at h; cases h
    | true => have := of_decide_eq_true h2; omega
theorem Right_impl (c : Coord) : Impl Tryd.prog 50 [.agg (encCoord c)] [.one (dbool (okC c))] := by
  refine impl_wp tabOk Tryd.func50 rfl rfl (by kernel_rfl) ?_
  refine WP_seq ?_
  refine vcc_sound _ _ _ tabOk (by exact rfl) ?_
  refine WP_seq ?_
  refine vcc_sound _ _ _ tabOk (by exact rfl) ?_
  refine CallD.mk _ _ (Id_impl c.group) (by exact ⟨DLe.refl _, trivial⟩) ?_
  cases h1 : idC c.group with
  | false =>
    have e : okC c = false := by unfold okC; rw [h1]; rfl
    rw [e]
    repeat (first | refine Br.t ?_ | refine Br.f ?_)
    refine WP_ret ?_
    exact ⟨DLe.refl _, trivial⟩
  | true =>
    repeat (first | refine Br.t ?_ | refine Br.f ?_)
    refine CallD.mk _ _ (Id_impl c.name) (by exact ⟨DLe.refl _, trivial⟩) ?_
    cases h2 : idC c.name with
    | false =>
      have e : okC c = false := by unfold okC; rw [h1, h2]; rfl
      rw [e]
      repeat (first | refine Br.t ?_ | refine Br.f ?_)
      refine WP_ret ?_
      exact ⟨DLe.refl _, trivial⟩
    | true =>
      repeat (first | refine Br.t ?_ | refine Br.f ?_)
      refine CallD.mk _ _ (WRight_impl c.version) (by exact ⟨DLe.refl _, trivial⟩) ?_
      cases h3 : rightW c.version with
      | false =>
        have e : okC c = false := by unfold okC; rw [h1, h2, h3]; rfl
        rw [e]
        repeat (first | refine Br.t ?_ | refine Br.f ?_)
        refine WP_ret ?_
        exact ⟨DLe.refl _, trivial⟩
      | true =>
        have e : okC c = !(decide (idxB c.version 58 ≥ 0)) := by unfold okC; rw [h1, h2, h3]; rfl
        rw [e]
        repeat (first | refine Br.t ?_ | refine Br.f ?_)
        refine CallD.mk _ _ (Contains1_impl c.version (rightW_size h3)) (by exact ⟨DLe.refl _, DLe.refl _, trivial⟩) ?_
        repeat (first | refine Br.t ?_ | refine Br.f ?_)
        refine WP_ret ?_
        exact ⟨DLe.refl _, trivial⟩
theorem okC_size {c : Coord} (h : okC c = true) : c.version.size ≤ 100 := by
  unfold okC at h
  cases h1 : idC c.group with
  | false => rw [h1] at h; cases h
  | true =>
    cases h2 : idC c.name with
    | false => rw [h1, h2] at h; cases h
    | true =>
      cases h3 : rightW c.version with
      | false => rw [h1, h2, h3] at h; cases h
      | true => exact rightW_size h3
abbrev nilP : D := .sc (.pointer none)
/-- an index, as it is handed out: none, or one that holds these -/
def encIx : Option (List Item) → D
  | none => nilP
  | some l => ixD l
def newR (l : List Item) : Option (List Item) := if newE okC l = 0 then some l else none
theorem Ix_New (l : List Item) : Impl Tryd.prog 30 [.one (dItems l)] [.one (encIx (newR l)), .one (dint (newE okC l))] := by
  have := New_impl okC Right_impl (fun c h => by have := okC_size h; omega) l
  have e : encIx (newR l) = if newE okC l = 0 then ixD l else .sc (.pointer none) := by unfold newR; split <;> rfl
  rw [e]
  exact this
end Go.Proofs.Nw.K
end
section
/- QL1: plain laws: few, awake, OrderOne. -/
open Go Go.RowKit Go.Proofs Go.Sort Go.Shelf
set_option linter.unusedVariables false
set_option linter.unusedSimpArgs false
namespace Go.Proofs.Nw.K

theorem decN {a b : Nat} : decide ((a : Int) < (b : Int)) = decide (a < b) := by simp
theorem in64_nat {i : Nat} (h : i ≤ 4194304) : in64 ((i : Int) + 1) := by unfold in64; omega
theorem chk_at {i k : Nat} (h : i < k) {α : Type} (x : Option α) : chk (0 ≤ (i : Int) ∧ (i : Int) < (k : Int)) x = x := chk_t ⟨by omega, by omega⟩

/-- few, past the one at i -/
def fewAt (l : List Str) (i : Nat) : Bool := ((l.drop i).all fun s => decide (s.size ≤ 100)) && decide (l.length ≤ 20)
theorem few_loop (n : Nat) (l : List Str) (hl : l.length ≤ 4194304) : ∀ (m i : Nat), i ≤ l.length → l.length < i + m → g_newellaw06_few.l14 n l m (i : Int) = some (fewAt l i)
  | 0, i, h1, h => by omega
  | m + 1, i, h1, h => by
    unfold g_newellaw06_few.l14 g_newellaw06_few.l14b
    rw [decN]
    by_cases hi : i < l.length
    · have hd : l.drop i = l[i] :: l.drop (i + 1) := List.drop_eq_getElem_cons hi
      have hg : l.getD (i : Int).toNat emp = l[i] := by simp [hi]
      rw [decide_eq_true hi, hg, cond_true, chk_at hi]
      by_cases hs : l[i].size ≤ 100
      · have : ¬ ((l[i].size : Int) > 100) := by omega
        rw [decide_eq_false this, cond_false, chk_t (in64_nat (by omega))]
        have ih := few_loop n l hl m (i + 1) hi (by omega)
        rw [show (((i + 1 : Nat) : Int)) = (i : Int) + 1 by omega] at ih
        rw [ih]
        unfold fewAt
        rw [hd, List.all_cons, decide_eq_true hs, Bool.true_and]
      · have : ((l[i].size : Int) > 100) := by omega
        rw [decide_eq_true this]
        unfold fewAt
        rw [hd, List.all_cons, decide_eq_false hs, Bool.false_and, Bool.false_and]
        rfl
    · rw [decide_eq_false hi]
      have : i = l.length := by omega
      subst this
      simp [fewAt, g_newellaw06_few.k14]
      omega
theorem few_eq (n : Nat) (l : List Str) (hn : l.length < n) (hl : l.length ≤ 4194304) : g_newellaw06_few n l = some (fewAt l 0) :=
  few_loop n l hl n 0 (Nat.zero_le _) (by omega)

/-! ### two lists of strings -/
theorem same_loop (n : Nat) (a b : List Str) (hab : a.length = b.length) (hl : a.length ≤ 4194304) : ∀ (m i : Nat), i ≤ a.length → a.length < i + m →
    g_newelhelp_Same_string__newelhelp_Plain_string_1.l20 n a b m (i : Int) = some (decide (a.drop i = b.drop i))
  | 0, i, h1, h => by omega
  | m + 1, i, h1, h => by
    unfold g_newelhelp_Same_string__newelhelp_Plain_string_1.l20 g_newelhelp_Same_string__newelhelp_Plain_string_1.l20b
    rw [decN]
    by_cases hi : i < a.length
    · have hi' : i < b.length := by omega
      have hd : a.drop i = a[i] :: a.drop (i + 1) := List.drop_eq_getElem_cons hi
      have hd' : b.drop i = b[i] :: b.drop (i + 1) := List.drop_eq_getElem_cons hi'
      have hg : a.getD (i : Int).toNat emp = a[i] := by simp [hi]
      have hg' : b.getD (i : Int).toNat emp = b[i] := by simp [hi']
      rw [decide_eq_true hi, hg, hg', cond_true, chk_at hi, chk_at hi']
      unfold g_newelhelp_Plain_string_1
      rw [Option.bind_some]
      by_cases hs : a[i] = b[i]
      · rw [hs]
        rw [beq_self_eq_true, Bool.not_true, cond_false, chk_t (in64_nat (by omega))]
        have ih := same_loop n a b hab hl m (i + 1) hi (by omega)
        rw [show (((i + 1 : Nat) : Int)) = (i : Int) + 1 by omega] at ih
        have he : (a.drop i = b.drop i) = (a.drop (i + 1) = b.drop (i + 1)) := by
          apply propext
          rw [hd, hd', hs]
          exact ⟨fun e => (List.cons.inj e).2, fun e => by rw [e]⟩
        rw [ih]
        exact congrArg some (decide_eq_decide.2 (by rw [he]))
      · have : (a[i].toList == b[i].toList) = false := by
          simp only [beq_eq_false_iff_ne]
          exact fun e => hs (toList_inj.1 e)
        have hne : ¬ a.drop i = b.drop i := by
          rw [hd, hd']
          exact fun e => hs (List.cons.inj e).1
        rw [this, decide_eq_false hne]
        rfl
    · rw [decide_eq_false hi]
      have : i = a.length := by omega
      subst this
      simp [g_newelhelp_Same_string__newelhelp_Plain_string_1.k20]
      rw [hab]; simp
theorem plain_eq (n : Nat) (a b : List Str) (hn : a.length < n) (hl : a.length ≤ 4194304) : g_newelhelp_Plain_string n a b = some (decide (a = b)) := by
  unfold g_newelhelp_Plain_string g_newelhelp_Same_string__newelhelp_Plain_string_1
  by_cases h : a.length = b.length
  · have : ((a.length : Int) != (b.length : Int)) = false := by simp [h]
    rw [this]
    simp only [cond_false]
    rw [show (0 : Int) = ((0 : Nat) : Int) from rfl, same_loop n a b h hl n 0 (Nat.zero_le _) (by omega)]
    simp
  · have : ((a.length : Int) != (b.length : Int)) = true := by simp; omega
    rw [this]
    have hne : a ≠ b := fun e => h (by rw [e])
    simp [hne]

/-! ### Sort, awake -/
theorem sort_eq (n : Nat) (l : List Str) (h1 : l.length ≤ 4194304) (h2 : ∀ x ∈ l, x.size ≤ 4194303) : g_order_Sort n l = some (sortV l) := by
  unfold g_order_Sort g_slices_Clone_string_string g_slices_SortFunc_string_string__order_whole
  rw [chk_t (by unfold room; omega)]
  simp only [Option.bind_some]
  rw [chk_t ⟨h1, h2⟩]
  rfl
theorem lit_size {a : Array UInt8} (h : a.size ≤ 4194303) : (⟨a⟩ : Str).size ≤ 4194303 := h
theorem whole21 : wholeC (⟨#[50]⟩ : Str) (⟨#[49]⟩ : Str) = 1 := by kernel_rfl
theorem whole12 : wholeC (⟨#[49]⟩ : Str) (⟨#[50]⟩ : Str) = -1 := by kernel_rfl
theorem sort21 : sortV [(⟨#[50]⟩ : Str), (⟨#[49]⟩ : Str)] = [(⟨#[49]⟩ : Str), (⟨#[50]⟩ : Str)] := by
  simp [sortV, List.mergeSort, List.MergeSort.Internal.splitInTwo, List.merge, ltOf, whole21, whole12]
theorem c1 : cmpV (⟨#[49, 45, 97, 108, 112, 104, 97]⟩ : Str) (⟨#[49]⟩ : Str) = -1 := by kernel_rfl
theorem c2 : cmpV (⟨#[49, 46, 48]⟩ : Str) (⟨#[49]⟩ : Str) = 0 := by kernel_rfl
theorem c3 : cmpV (⟨#[49, 46, 49, 48]⟩ : Str) (⟨#[49, 46, 57]⟩ : Str) = 1 := by kernel_rfl
theorem awake_eq (n : Nat) : g_newellaw06_awake (n + 3) = some true := by
  unfold g_newellaw06_awake
  rw [g_order_Compare_eq _ _ _ (by decide) (by decide), c1]
  simp only [Option.bind_some, beq_self_eq_true, cond_true]
  rw [g_order_Compare_eq _ _ _ (by decide) (by decide), c2]
  simp only [Option.bind_some, beq_self_eq_true, cond_true]
  rw [g_order_Compare_eq _ _ _ (by decide) (by decide), c3]
  simp only [Option.bind_some, beq_self_eq_true, cond_true]
  rw [sort_eq _ _ (by decide) (fun x hx => by
    simp only [List.mem_cons, List.not_mem_nil, or_false] at hx
    rcases hx with rfl | rfl <;> decide), sort21]
  simp only [Option.bind_some]
  rw [plain_eq _ _ _ (by simp) (by simp)]
  simp

/-! ### OrderOne -/
theorem orderOne_eq (a b c : Str) : g_newellaw06_OrderOne 10 a b c = some true := by
  unfold g_newellaw06_OrderOne
  rw [few_eq 10 [a, b, c] (by simp) (by simp)]
  simp only [Option.bind_some]
  cases hf : fewAt [a, b, c] 0 with
  | false =>
    simp only [Bool.not_false, cond_true]
    rw [awake_eq 7]
    rfl
  | true =>
    simp only [Bool.not_true, cond_false]
    simp [fewAt] at hf
    obtain ⟨ha, hb, hc⟩ := hf
    rw [g_order_Compare_eq _ a b (by omega) (by omega), g_order_Compare_eq _ b c (by omega) (by omega), g_order_Compare_eq _ a c (by omega) (by omega), g_order_Compare_eq _ a a (by omega) (by omega), g_order_Compare_eq _ b a (by omega) (by omega), awake_eq 7]
    simp only [Option.bind_some, Bool.not_true, cond_false]
    have e1 := totV.refl a
    have e2 := totV.anti a b
    have e3 := totV.anti a c
    have e4 := totV.anti b c
    have v1 := totV.vals a b
    have v2 := totV.vals b c
    have v3 := totV.vals a c
    have v4 := totV.vals b a
    have t1 := totV.trans a b c
    have t2 := totV.trans c b a
    have s1 := fun h => totV.subst (a := a) (b := b) h c
    have s2 := fun h => totV.subst (a := b) (b := c) h a
    rw [chk_t (by unfold in64; omega)]
    rw [e1]
    simp only [bne_self_eq_false, cond_false]
    generalize cmpV a b = x at *
    generalize cmpV b c = y at *
    generalize cmpV a c = z at *
    generalize cmpV b a = x' at *
    generalize cmpV c b = y' at *
    generalize cmpV c a = z' at *
    obtain rfl : x' = -x := by omega
    obtain rfl : y' = -y := by omega
    obtain rfl : z' = -z := by omega
    rcases v1 with rfl | rfl | rfl <;> rcases v2 with rfl | rfl | rfl <;> rcases v3 with rfl | rfl | rfl <;> first | rfl | (exfalso; omega) | (exfalso; have := s1 rfl; omega) | (exfalso; have := s2 rfl; omega)
end Go.Proofs.Nw.K
end
section
/- QI7: what an index tells. -/
open Go Go.RowKit Go.Proofs
set_option linter.unusedVariables false
set_option linter.unusedSimpArgs false
set_option maxHeartbeats 1000000
namespace Go.Proofs.Nw.K

structure IxT where
  val : Option (List Item)
  ok : ∀ l, val = some l → newE okC l = 0
def ixNil : IxT := ⟨none, fun l h => by cases h⟩
def ixNew (l : List Item) : IxT := ⟨newR l, fun m h => by
  unfold newR at h
  split at h
  · cases h; assumption
  · cases h⟩
def dIx (x : IxT) : D := .opt x.val.isSome (ixCells (x.val.getD []))
theorem dIx_le (x : IxT) : DLe (.one (dIx x)) (.one (encIx x.val)) := by
  obtain ⟨x, hx⟩ := x
  intro σ v h
  cases x with
  | none =>
    have h : Rep σ v (.opt false _) := h
    cases h
    exact Rep.sc rfl
  | some l =>
    have h : Rep σ v (.opt true _) := h
    cases h with
    | optS h => exact h
theorem dIx_ge (x : IxT) : DLe (.one (encIx x.val)) (.one (dIx x)) := by
  obtain ⟨x, hx⟩ := x
  intro σ v h
  cases x with
  | none =>
    have h : Rep σ v (.sc (.pointer none)) := h
    cases h
    exact Rep.optN
  | some l => exact Rep.optS h

def g_index_New (n : Nat) (a0 : List Item) : Option (IxT × Int) := some (ixNew a0, newE okC a0)
theorem g_index_New.ok (n : Nat) (a0 : List Item) (r : IxT × Int) (h : g_index_New n a0 = some r) : Impl Tryd.prog 30 [.one (.tl Item 4 encItem zItem a0)] [.one (dIx r.1), .one (dint r.2)] := by
  obtain rfl := Option.some.inj h
  exact (Ix_New a0).res ⟨dIx_ge (ixNew a0), DLe.refl _, trivial⟩

def findI (c : Coord) : Option (List Item) → Str × Bool
  | none => (emp, false)
  | some l => (lookT c l, (fndM c (textT l)).isSome)
def g_index_Index_Find (n : Nat) (x : IxT) (c : Coord) : Option (Str × Bool) := some (findI c x.val)
def lenI : Option (List Item) → Int
  | none => 0
  | some l => (l.length : Int)
def g_index_Index_Len (n : Nat) (x : IxT) : Option Int := some (lenI x.val)
theorem isNil {E : Operand → AV} {st : List AO} (x y : Operand) (hx : E x = .sc (.pointer none)) (hy : E y = .sc (.pointer none)) : OpS Tryd.prog (.binOp .eql 51 x y 51) E st (.bool true) st := op_peql_nils 51 51 x y (tabOk.pt 51 rfl) hx hy
theorem isRef {E : Operand → AV} {st : List AO} (x y : Operand) (cells : List D) (hx : E x = .d (.ref cells)) (hy : E y = .sc (.pointer none)) : OpS Tryd.prog (.binOp .eql 51 x y 51) E st (.bool false) st := op_refeq_nil 51 51 x y cells (tabOk.pt 51 rfl) hx hy

theorem g_index_Index_Len.ok (n : Nat) (x : IxT) (r : Int) (h : g_index_Index_Len n x = some r) : Impl Tryd.prog 35 [.one (dIx x)] [.one (dint r)] := by
  obtain rfl := Option.some.inj h
  obtain ⟨x, hx⟩ := x
  refine Impl.le (ds' := [.one (encIx x)]) ?_ ⟨dIx_le ⟨x, hx⟩, trivial⟩
  show Impl Tryd.prog 35 [.one (encIx x)] [.one (dint (lenI x))]
  refine impl_wp tabOk Tryd.func35 rfl rfl (by kernel_rfl) ?_
  refine WP_seq ?_
  refine vcc_sound _ _ _ tabOk (by exact rfl) ?_
  refine WP_seq ?_
  refine WP_seq ?_
  refine WP_region ?_
  refine stepW tabOk rfl ?_
  cases x with
  | none =>
    refine stepO rfl (isNil _ _ rfl rfl) ?_
    refine WPL_nil ?_
    refine vcc_sound _ _ _ tabOk (by exact rfl) ?_
    refine Br.t ?_
    refine WP_seq ?_
    refine vcc_sound _ _ _ tabOk (by exact rfl) ?_
    refine WP_ret ?_
    exact ⟨DLe.refl _, trivial⟩
  | some l =>
    rw [show lenI (some l) = ((sortCo (l.map (·.coord))).length : Int) by rw [sortCo_length, List.length_map]; rfl]
    refine stepO rfl (isRef _ _ (ixCells l) rfl rfl) ?_
    refine WPL_nil ?_
    refine vcc_sound _ _ _ tabOk (by exact rfl) ?_
    refine Br.f ?_
    refine WP_skip ?_
    refine WP_seq ?_
    refine vcc_sound _ _ _ tabOk (by exact rfl) ?_
    refine WP_ret ?_
    exact ⟨DLe.refl _, trivial⟩

def textD (d : List Item) : List (Coord × D) := d.map fun it => (it.coord, dstr it.text)
theorem textD_fnd (c : Coord) : ∀ (d : List Item), fndM c (textD d) = fndM c (textT d)
  | [] => rfl
  | it :: r => by
    have := textD_fnd c r
    unfold textD textT at *
    simp only [List.map_cons, fndM, this]
theorem textD_look (c : Coord) : ∀ (d : List Item), lookM (dstr emp) c (textD d) = dstr (lookT c d)
  | [] => rfl
  | it :: r => by
    have := textD_look c r
    unfold lookT textD at *
    simp only [List.map_cons, lookM]
    split
    · rfl
    · exact this
theorem g_index_Index_Find.ok (n : Nat) (x : IxT) (c : Coord) (r : Str × Bool) (h : g_index_Index_Find n x c = some r) : Impl Tryd.prog 31 [.one (dIx x), .agg (encCoord c)] [.one (dstr r.1), .one (dbool r.2)] := by
  obtain rfl := Option.some.inj h
  obtain ⟨x, hx⟩ := x
  refine Impl.le (ds' := [.one (encIx x), .agg (encCoord c)]) ?_ ⟨dIx_le ⟨x, hx⟩, DLe.refl _, trivial⟩
  show Impl Tryd.prog 31 [.one (encIx x), .agg (encCoord c)] [.one (dstr (findI c x).1), .one (dbool (findI c x).2)]
  refine impl_wp tabOk Tryd.func31 rfl rfl (by kernel_rfl) ?_
  refine WP_seq ?_
  refine vcc_sound _ _ _ tabOk (by exact rfl) ?_
  refine WP_seq ?_
  refine WP_seq ?_
  refine WP_region ?_
  refine stepW tabOk rfl ?_
  cases x with
  | none =>
    refine stepO rfl (isNil _ _ rfl rfl) ?_
    refine WPL_nil ?_
    refine vcc_sound _ _ _ tabOk (by exact rfl) ?_
    refine Br.t ?_
    refine WP_seq ?_
    refine vcc_sound _ _ _ tabOk (by exact rfl) ?_
    refine WP_ret ?_
    exact ⟨DLe.refl _, DLe.refl _, trivial⟩
  | some l =>
    refine stepO rfl (isRef _ _ (ixCells l) rfl rfl) ?_
    refine WPL_nil ?_
    refine vcc_sound _ _ _ tabOk (by exact rfl) ?_
    refine Br.f ?_
    refine WP_skip ?_
    refine WP_sub (Sub.ofL [(0, .d (ixD l)), (3, .ptr 0 0)] [.box 47 ((encCoord c).map AV.d)] (Nat.zero_le _) ⟨rfl, rfl, rfl, rfl, trivial⟩ rfl rfl) ?_
    refine WP_seq ?_
    refine WP_draw3 11 (List.replicate 11 false) [[.box 47 ((encCoord c).map AV.d)]] tabOk.mixed (by kernel_rfl) rfl ?_
    have hin : ∀ s ∈ [[AO.box 47 ((encCoord c).map AV.d)]], s = [.box 47 ((encCoord c).map AV.d)] := fun s hs => by simpa using hs
    refine WT_puk tabOk rfl rfl (PuK.mk _ (fun st => ⟨rfl, rfl⟩) ?_)
    refine WT_puk tabOk rfl rfl (PuK.mk _ (fun st => ⟨rfl, rfl⟩) ?_)
    refine WT_puk tabOk rfl rfl (PuK.mk _ (fun st => ⟨rfl, rfl⟩) ?_)
    refine WT_puk tabOk rfl rfl (PuK.mk _ (fun st => ⟨rfl, rfl⟩) ?_)
    refine WT_pure rfl rfl (fun s hs => by rw [hin s hs]; exact op_load_ptr 47 (.tmp 3) 3 0 0 (encCoord c) ((encCoord c).map AV.d) (tabOk.ld 47 _ rfl) rfl rfl rfl rfl) ?_
    refine WT_pure rfl rfl (fun s hs => op_lookupD 73 (.tmp 14) (.tmp 15) (textD l) c keyC mapTC (dstr emp) rfl (by simp [textD, Function.comp_def]; rfl) ref_val true) ?_
    rw [if_pos rfl, textD_look, textD_fnd]
    refine WT_puk tabOk rfl rfl (PuK.mk _ (fun st => ⟨rfl, rfl⟩) ?_)
    refine WT_puk tabOk rfl rfl (PuK.mk _ (fun st => ⟨rfl, rfl⟩) ?_)
    refine WT_puk tabOk rfl rfl (PuK.mk _ (fun st => ⟨rfl, rfl⟩) ?_)
    refine WT_puk tabOk rfl rfl (PuK.mk _ (fun st => ⟨rfl, rfl⟩) ?_)
    refine WT_puk tabOk rfl rfl (PuK.mk _ (fun st => ⟨rfl, rfl⟩) ?_)
    intro s hs
    obtain rfl : [AO.box 47 ((encCoord c).map AV.d)] = s := by simpa using hs
    refine WP_seq ?_
    refine vcc_sound _ _ _ tabOk (by exact rfl) ?_
    refine WP_ret ?_
    exact ⟨DLe.refl _, DLe.refl _, trivial⟩
end Go.Proofs.Nw.K
end
section
/- Printed by a program of mine (pg.py): functions that may have no answer, and that the code comes to them. -/
open Go Go.RowKit Go.Proofs
set_option linter.unusedVariables false
set_option linter.unusedSimpArgs false
set_option maxHeartbeats 1000000
namespace Go.Proofs.Nw.K

/-! ### slices.Clone[[]newel/api.Coord,newel/api.Coord] -/
def g_slices_Clone_api_Coord_api_Coord (n : Nat) (l : (List Coord)) : Option (List Coord) := chk (room l.length 48) <| some l
theorem g_slices_Clone_api_Coord_api_Coord.ok (n : Nat) (l : (List Coord)) (r : (List Coord)) (h : g_slices_Clone_api_Coord_api_Coord n l = some r) : Impl Tryd.prog 53 [.one (.tl Coord 3 encCoord zCoord l)] [.one (.tl Coord 3 encCoord zCoord r)] := by
  obtain ⟨c1, h⟩ := chk_some h
  obtain rfl := Option.some.inj h
  refine impl_wp tabOk Tryd.func53 rfl rfl (by kernel_rfl) ?_
  refine WP_seq ?_
  refine vcc_sound _ _ _ tabOk (by exact rfl) ?_
  refine WP_seq ?_
  refine WP_seq ?_
  refine vcc_sound _ _ _ tabOk (by exact rfl) ?_
  refine And.intro (fun e => ?_) ?_
  · refine vcc_sound _ _ _ tabOk (by exact rfl) ?_
    repeat (first | refine Ob.mk (by first | rfl | omega | assumption | exact ⟨rfl, rfl, (List.length_map _).symm⟩ | exact ⟨rfl, rfl, by rw [List.length_map]; omega⟩) ?_ | refine Br.t ?_ | refine Br.f ?_)
    refine WP_seq ?_
    refine vcc_sound _ _ _ tabOk (by exact rfl) ?_
    refine WP_ret ?_
    exact ⟨by subst e; exact DLe.nils _, trivial⟩
  refine vcc_sound _ _ _ tabOk (by exact rfl) ?_
  repeat (first | refine Ob.mk (by first | rfl | omega | assumption | exact ⟨rfl, rfl, (List.length_map _).symm⟩ | exact ⟨rfl, rfl, by rw [List.length_map]; omega⟩) ?_ | refine Br.t ?_ | refine Br.f ?_)
  refine WP_skip ?_
  refine WP_seq ?_
  refine vcc_sound _ _ _ tabOk (by exact rfl) ?_
  repeat (first | refine Ob.mk (by first | rfl | omega | assumption | exact ⟨rfl, rfl, (List.length_map _).symm⟩ | exact ⟨rfl, rfl, by rw [List.length_map]; omega⟩) ?_ | refine Br.t ?_ | refine Br.f ?_)
  refine AppK.ty encCoord [] l rfl rfl rfl (by simpa using c1) ?_
  refine WP_ret ?_
  repeat (first | refine Ob.mk (by first | rfl | omega | assumption | exact ⟨rfl, rfl, (List.length_map _).symm⟩ | exact ⟨rfl, rfl, by rw [List.length_map]; omega⟩) ?_ | refine Br.t ?_ | refine Br.f ?_)
  exact ⟨DLe.tl _ rfl, trivial⟩
theorem g_slices_Clone_api_Coord_api_Coord.own (n : Nat) (l : (List Coord)) (r : (List Coord)) (h : g_slices_Clone_api_Coord_api_Coord n l = some r) : Gives Tryd.prog 53 [.one (.tl Coord 3 encCoord zCoord l)] 47 3 (r.map encCoord) := by
  obtain ⟨c1, h⟩ := chk_some h
  obtain rfl := Option.some.inj h
  refine gives_of Tryd.func53 rfl rfl rfl (by kernel_rfl) ?_
  refine WP_seq ?_
  refine vcc_sound _ _ _ tabOk (by exact rfl) ?_
  refine WP_seq ?_
  refine WP_seq ?_
  refine vcc_sound _ _ _ tabOk (by exact rfl) ?_
  refine And.intro (fun e => ?_) ?_
  · refine vcc_sound _ _ _ tabOk (by exact rfl) ?_
    repeat (first | refine Ob.mk (by first | rfl | omega | assumption | exact ⟨rfl, rfl, (List.length_map _).symm⟩ | exact ⟨rfl, rfl, by rw [List.length_map]; omega⟩) ?_ | refine Br.t ?_ | refine Br.f ?_)
    refine WP_seq ?_
    refine vcc_sound _ _ _ tabOk (by exact rfl) ?_
    refine WP_sub (Sub.nilsRow 2 47 3 rfl) ?_
    refine WP_ret ?_
    subst e
    exact ⟨0, rfl, rfl⟩
  refine vcc_sound _ _ _ tabOk (by exact rfl) ?_
  repeat (first | refine Ob.mk (by first | rfl | omega | assumption | exact ⟨rfl, rfl, (List.length_map _).symm⟩ | exact ⟨rfl, rfl, by rw [List.length_map]; omega⟩) ?_ | refine Br.t ?_ | refine Br.f ?_)
  refine WP_skip ?_
  refine WP_seq ?_
  refine vcc_sound _ _ _ tabOk (by exact rfl) ?_
  repeat (first | refine Ob.mk (by first | rfl | omega | assumption | exact ⟨rfl, rfl, (List.length_map _).symm⟩ | exact ⟨rfl, rfl, by rw [List.length_map]; omega⟩) ?_ | refine Br.t ?_ | refine Br.f ?_)
  refine AppK.ty encCoord [] l rfl rfl rfl (by simpa using c1) ?_
  refine WP_ret ?_
  repeat (first | refine Ob.mk (by first | rfl | omega | assumption | exact ⟨rfl, rfl, (List.length_map _).symm⟩ | exact ⟨rfl, rfl, by rw [List.length_map]; omega⟩) ?_ | refine Br.t ?_ | refine Br.f ?_)
  exact ⟨_, congrArg (AV.h 0 _ 0) (List.length_map _).symm, rfl⟩

end Go.Proofs.Nw.K
end
section
/- QI8: an index's versions and coords; awake. -/
open Go Go.RowKit Go.Proofs
set_option linter.unusedVariables false
set_option linter.unusedSimpArgs false
set_option maxHeartbeats 1000000
namespace Go.Proofs.Nw.K

theorem newGo_ok : ∀ (r d : List Item) (ok : Coord → Bool), newGo d ok r = 0 → ∀ it ∈ r, ok it.coord = true
  | [], d, ok, h, it, hi => by cases hi
  | x :: r, d, ok, h, it, hi => by
    unfold newGo at h
    cases h1 : ok x.coord with
    | false => rw [h1] at h; cases h
    | true =>
      rw [h1, cond_true] at h
      rcases List.mem_cons.1 hi with rfl | hi
      · exact h1
      · cases h2 : (fndM x.coord (textT d)).isSome with
        | true => rw [h2] at h; cases h
        | false => rw [h2, cond_false] at h; exact newGo_ok r _ ok h it hi
theorem newE_facts {ok : Coord → Bool} {l : List Item} (h : newE ok l = 0) : l.length ≤ 300 ∧ newGo [] ok l = 0 ∧ ∀ it ∈ l, ok it.coord = true := by
  unfold newE at h
  cases h1 : decide ((l.length : Int) > 300) with
  | true => rw [h1] at h; cases h
  | false =>
    rw [h1, cond_false] at h
    have := of_decide_eq_false h1
    exact ⟨by omega, h, newGo_ok l [] ok h⟩

theorem versOf_mem (l : List Coord) : ∀ e ∈ versOf l, ∀ v ∈ e.2, ∃ c ∈ l, c.version = v := by
  have key : ∀ (n : Nat) (l : List Coord), l.length = n → ∀ e ∈ versOf l, ∀ v ∈ e.2, ∃ c ∈ l, c.version = v := by
    intro n
    induction n with
    | zero => intro l hl e he; rw [List.eq_nil_of_length_eq_zero hl] at he; cases he
    | succ n ih =>
      intro l hl e he v hv
      obtain ⟨r, c, rfl⟩ : ∃ r c, l = r ++ [c] := ⟨l.dropLast, l.getLast (by intro h; simp [h] at hl), (List.dropLast_concat_getLast _).symm⟩
      have hr : r.length = n := by simpa using hl
      rw [versOf_snoc] at he
      rcases mem_updM _ _ _ _ he with h | h
      · rw [h] at hv
        rcases List.mem_append.1 hv with hv | hv
        · rcases lookM_mem (prj c) [] (versOf r) with h2 | h2
          · rw [h2] at hv; cases hv
          · obtain ⟨c', h3, h4⟩ := ih r hr _ h2 v hv
            exact ⟨c', by simp [h3], h4⟩
        · exact ⟨c, by simp, by simp at hv; exact hv.symm⟩
      · obtain ⟨c', h3, h4⟩ := ih r hr e h v hv
        exact ⟨c', by simp [h3], h4⟩
  exact key l.length l rfl
def versI (p : Pj) : Option (List Item) → List Str
  | none => []
  | some l => sortV (lookM [] p (versOf (l.map (·.coord))))
def g_index_Index_Versions (n : Nat) (x : IxT) (g nm : Str) : Option (List Str) := some (versI (g, nm) x.val)
theorem verD_look (p : Pj) : ∀ (V : List (Pj × List Str)), DLe (.one (lookM D.nils p (V.map fun e => (e.1, dStrs e.2)))) (.one (dStrs (lookM [] p V)))
  | [] => DLe.nils emp
  | (q, vs) :: r => by
    have := verD_look p r
    simp only [List.map_cons, lookM]
    split
    · exact DLe.refl _
    · exact this
theorem ps_val {a b : Str} (σ : Sig) (gh : List Value) (st : List AO) (v : Value) (h : RepA σ gh st v (.agg [dstr a, dstr b])) : v = kvP (a, b) := strs_val (l := ksP (a, b)) h

theorem g_index_Index_Versions.ok (n : Nat) (x : IxT) (a b : Str) (r : List Str) (h : g_index_Index_Versions n x a b = some r) : Impl Tryd.prog 32 [.one (dIx x), .one (dstr a), .one (dstr b)] [.one (.tl Str 1 encStr emp r)] := by
  obtain rfl := Option.some.inj h
  obtain ⟨x, hx⟩ := x
  refine Impl.le (ds' := [.one (encIx x), .one (dstr a), .one (dstr b)]) ?_ ⟨dIx_le ⟨x, hx⟩, DLe.refl _, DLe.refl _, trivial⟩
  show Impl Tryd.prog 32 [.one (encIx x), .one (dstr a), .one (dstr b)] [.one (.tl Str 1 encStr emp (versI (a, b) x))]
  refine impl_wp tabOk Tryd.func32 rfl rfl (by kernel_rfl) ?_
  refine WP_seq ?_
  refine vcc_sound _ _ _ tabOk (by exact rfl) ?_
  refine WP_seq ?_
  refine WP_seq ?_
  refine WP_region ?_
  refine stepW tabOk rfl ?_
  cases x with
  | none =>
    refine stepO rfl (isNil _ _ rfl rfl) ?_
    refine WPL_nil ?_
    refine vcc_sound _ _ _ tabOk (by exact rfl) ?_
    refine Br.t ?_
    refine WP_seq ?_
    refine vcc_sound _ _ _ tabOk (by exact rfl) ?_
    refine WP_ret ?_
    exact ⟨DLe.nils emp, trivial⟩
  | some l =>
    obtain ⟨h1, _, h2⟩ := newE_facts (hx l rfl)
    have hle := lookM_le (l.map (·.coord)) (a, b)
    rw [List.length_map] at hle
    have hsz : ∀ v ∈ lookM [] (a, b) (versOf (l.map (·.coord))), v.size ≤ 4194303 := fun v hv => by
      rcases lookM_mem (a, b) [] (versOf (l.map (·.coord))) with h3 | h3
      · rw [h3] at hv; cases hv
      · obtain ⟨c, hc, rfl⟩ := versOf_mem _ _ h3 v hv
        obtain ⟨it, hi, rfl⟩ := List.mem_map.1 hc
        have := okC_size (h2 it hi)
        omega
    have hsort := g_order_Sort.ok n _ _ (sort_eq n (lookM [] (a, b) (versOf (l.map (·.coord)))) (by omega) hsz)
    refine stepO rfl (isRef _ _ (ixCells l) rfl rfl) ?_
    refine WPL_nil ?_
    refine vcc_sound _ _ _ tabOk (by exact rfl) ?_
    refine Br.f ?_
    refine WP_skip ?_
    refine WP_seq ?_
    refine WP_region ?_
    refine stepW tabOk rfl ?_
    refine stepW tabOk rfl ?_
    refine stepW tabOk rfl ?_
    refine stepW tabOk rfl ?_
    refine stepW tabOk rfl ?_
    refine stepW tabOk rfl ?_
    refine stepW tabOk rfl ?_
    refine stepO rfl (op_lookupD 74 (.tmp 12) (.tmp 15) ((versOf (l.map (·.coord))).map fun e => (e.1, dStrs e.2)) (a, b) keyP mapTP .nils rfl (by simp [Function.comp_def]; rfl) ps_val false) ?_
    refine stepW tabOk rfl ?_
    refine CallD.mk _ _ hsort (by exact ⟨verD_look _ _, trivial⟩) ?_
    refine stepW tabOk rfl ?_
    refine WPL_nil ?_
    refine WP_ret ?_
    exact ⟨DLe.refl _, trivial⟩

def coordsI : Option (List Item) → List Coord
  | none => []
  | some l => sortCo (l.map (·.coord))
def g_index_Index_Coords (n : Nat) (x : IxT) : Option (List Coord) := some (coordsI x.val)
theorem g_index_Index_Coords.ok (n : Nat) (x : IxT) (r : List Coord) (h : g_index_Index_Coords n x = some r) : Impl Tryd.prog 34 [.one (dIx x)] [.one (.tl Coord 3 encCoord zCoord r)] := by
  obtain rfl := Option.some.inj h
  obtain ⟨x, hx⟩ := x
  refine Impl.le (ds' := [.one (encIx x)]) ?_ ⟨dIx_le ⟨x, hx⟩, trivial⟩
  show Impl Tryd.prog 34 [.one (encIx x)] [.one (.tl Coord 3 encCoord zCoord (coordsI x))]
  refine impl_wp tabOk Tryd.func34 rfl rfl (by kernel_rfl) ?_
  refine WP_seq ?_
  refine vcc_sound _ _ _ tabOk (by exact rfl) ?_
  refine WP_seq ?_
  refine WP_seq ?_
  refine WP_region ?_
  refine stepW tabOk rfl ?_
  cases x with
  | none =>
    refine stepO rfl (isNil _ _ rfl rfl) ?_
    refine WPL_nil ?_
    refine vcc_sound _ _ _ tabOk (by exact rfl) ?_
    refine Br.t ?_
    refine WP_seq ?_
    refine vcc_sound _ _ _ tabOk (by exact rfl) ?_
    refine WP_ret ?_
    exact ⟨DLe.nils zCoord, trivial⟩
  | some l =>
    obtain ⟨h1, _, h2⟩ := newE_facts (hx l rfl)
    refine stepO rfl (isRef _ _ (ixCells l) rfl rfl) ?_
    refine WPL_nil ?_
    refine vcc_sound _ _ _ tabOk (by exact rfl) ?_
    refine Br.f ?_
    refine WP_skip ?_
    refine WP_seq ?_
    refine vcc_sound _ _ _ tabOk (by exact rfl) ?_
    refine CallD.mk _ _ (g_slices_Clone_api_Coord_api_Coord.ok n (sortCo (l.map (·.coord))) (sortCo (l.map (·.coord))) (by unfold g_slices_Clone_api_Coord_api_Coord; exact chk_t (by unfold room; rw [sortCo_length, List.length_map]; omega))) (by exact ⟨DLe.refl _, trivial⟩) ?_
    refine WP_ret ?_
    exact ⟨DLe.refl _, trivial⟩

/-! ### awake -/
def cA : Coord := ⟨⟨#[103]⟩, ⟨#[97]⟩, ⟨#[49]⟩⟩
def itA : Item := ⟨cA, ⟨#[116]⟩⟩
theorem okA : okC cA = true := by kernel_rfl
theorem newA : newE okC [itA] = 0 := by
  unfold newE newGo newGo
  rw [show okC itA.coord = true from okA]
  rfl
theorem ixA : newR [itA] = some [itA] := by unfold newR; rw [newA, if_pos rfl]
def g_newellaw13_awake (n : Nat) : Option Bool := some true
theorem versA : versI (⟨#[103]⟩, ⟨#[97]⟩) (some [itA]) = [⟨#[49]⟩] := by
  show sortV [(⟨#[49]⟩ : Str)] = _
  simp [sortV]
theorem g_newellaw13_awake.ok (n : Nat) (r : Bool) (h : g_newellaw13_awake n = some r) : Impl Tryd.prog 29 [] [.one (dbool r)] := by
  obtain rfl := Option.some.inj h
  have hN := Ix_New [itA]
  rw [ixA, newA] at hN
  have hval : (ixNew [itA]).val = some [itA] := ixA
  have hle : DLe (.one (ixD [itA])) (.one (dIx (ixNew [itA]))) := by
    have := dIx_ge (ixNew [itA])
    rw [hval] at this
    exact this
  have hF := g_index_Index_Find.ok 0 (ixNew [itA]) cA _ rfl
  have hL := g_index_Index_Len.ok 0 (ixNew [itA]) _ rfl
  have hV := g_index_Index_Versions.ok 0 (ixNew [itA]) ⟨#[103]⟩ ⟨#[97]⟩ _ rfl
  rw [hval] at hF hL hV
  rw [versA] at hV
  replace hF := hF.le (ds := [.one (ixD [itA]), .agg (encCoord cA)]) ⟨hle, DLe.refl _, trivial⟩
  replace hL := hL.le (ds := [.one (ixD [itA])]) ⟨hle, trivial⟩
  replace hV := hV.le (ds := [.one (ixD [itA]), .one (dstr ⟨#[103]⟩), .one (dstr ⟨#[97]⟩)]) ⟨hle, DLe.refl _, DLe.refl _, trivial⟩
  have eF : findI cA (some [itA]) = (⟨#[116]⟩, true) := by simp [findI, lookT, lookM, fndM, textT, itA]
  rw [eF] at hF
  have hL : Impl Tryd.prog 35 [.one (ixD [itA])] [.one (dint 1)] := hL
  refine impl_wp tabOk Tryd.func29 rfl rfl (by kernel_rfl) ?_
  refine WP_seq ?_
  refine vcc_sound _ _ _ tabOk (by exact rfl) ?_
  refine WP_seq ?_
  refine vcc_sound _ _ _ tabOk (by exact rfl) ?_
  refine NewS.list ?_
  refine CallD.mk _ _ hN (by exact ⟨DLe.tl zItem rfl, trivial⟩) ?_
  refine WP_seq ?_
  refine WP_seq ?_
  refine WP_region ?_
  refine stepW tabOk rfl ?_
  refine stepW tabOk rfl ?_
  refine stepW tabOk rfl ?_
  refine stepG tabOk rfl rfl rfl (ltb rfl) rfl ?_
  refine stepGN rfl rfl rfl (ltb rfl) rfl ((isRef _ _ (ixCells [itA]) rfl rfl).n ?_)
  refine stepW tabOk rfl ?_
  refine Br.f ?_
  refine WPL_nil ?_
  refine WP_sub (Sub.ofL [(1, .d (ixD [itA])), (17, .bool false)] [] (Nat.zero_le _) ⟨rfl, rfl, rfl, rfl, trivial⟩ rfl rfl) ?_
  refine vcc_sound _ _ _ tabOk (by exact rfl) ?_
  refine Br.f ?_
  refine WP_skip ?_
  refine WP_seq ?_
  refine vcc_sound _ _ _ tabOk (by exact rfl) ?_
  refine CallD.mk _ _ hF (by exact ⟨DLe.refl _, DLe.refl _, trivial⟩) ?_
  refine WP_seq ?_
  refine vcc_sound _ _ _ tabOk (by exact rfl) ?_
  repeat (first | refine Br.t ?_ | refine Br.f ?_)
  refine Br.yes (by rw [beq_self_eq_true]) ?_
  repeat (first | refine Br.t ?_ | refine Br.f ?_)
  refine CallD.mk _ _ hL (by exact ⟨DLe.refl _, trivial⟩) ?_
  repeat (first | refine Br.t ?_ | refine Br.f ?_)
  refine CallD.mk _ _ hV (by exact ⟨DLe.refl _, DLe.refl _, DLe.refl _, trivial⟩) ?_
  repeat (first | refine Br.t ?_ | refine Br.f ?_)
  refine NewS.list ?_
  repeat (first | refine Br.t ?_ | refine Br.f ?_)
  refine CallD.mk _ _ (g_newelhelp_Plain_string.ok 2 [⟨#[49]⟩] [⟨#[49]⟩] true (by rw [plain_eq _ _ _ (by decide) (by decide), decide_eq_true rfl])) (by exact ⟨DLe.refl _, DLe.tl emp rfl, trivial⟩) ?_
  repeat (first | refine Br.t ?_ | refine Br.f ?_)
  refine WP_ret ?_
  exact ⟨DLe.refl _, trivial⟩
theorem force_in {a : AV} {K : AV → Prop} (h : K a) : force a K := by
  unfold force
  split <;> exact h
end Go.Proofs.Nw.K
end
section
/- Printed by a program of mine (pg.py): functions that may have no answer, and that the code comes to them. -/
open Go Go.RowKit Go.Proofs
set_option linter.unusedVariables false
set_option linter.unusedSimpArgs false
set_option maxHeartbeats 1000000
namespace Go.Proofs.Nw.K

/-! ### newel/newellaw13.IndexNil -/
def g_newellaw13_IndexNil.k35 (n : Nat) (a0 : Coord) (y32 : IxT × Int) (x34 : Int) : Option (Bool) :=
  (g_index_Index_Find n ixNil a0).bind fun y36 =>
  (g_newellaw13_awake n).bind fun y37 =>
  bif y37 then (
    bif (y32.2 == x34) then (
      bif (y36.1.toList == emp.toList) then (
        bif (!y36.2) then (
          (g_index_Index_Versions n ixNil a0.group a0.name).bind fun y42 =>
          bif ((y42.length : Int) == 0) then (
            (g_index_Index_Len n ixNil).bind fun y44 =>
            bif (y44 == 0) then (
              (g_index_Index_Coords n ixNil).bind fun y46 =>
              some ((y46.length : Int) == 0)
            ) else (
              some false
            )
          ) else (
            some false
          )
        ) else (
          some false
        )
      ) else (
        some false
      )
    ) else (
      some false
    )
  ) else (
    some false
  )
def g_newellaw13_IndexNil.k29 (n : Nat) (a0 : Coord) (a1 : Int) (l30 : (List Item)) (v31 : Nat) : Option (Bool) :=
  (g_index_New n l30).bind fun y32 =>
  bif (decide (((298 : Int) + (IntKind.wrap .i64 ((IntKind.wrap .u64 a1).tmod 5))) > 300)) then (
    g_newellaw13_IndexNil.k35 n a0 y32 3
  ) else (
    g_newellaw13_IndexNil.k35 n a0 y32 0
  )
def g_newellaw13_IndexNil.l29b (n : Nat) (a0 : Coord) (a1 : Int) (rec29 : (List Item) → Nat → Int → Option (Bool)) (l48 : (List Item)) (v49 : Nat) (x50 : Int) : Option (Bool) :=
  bif (decide (x50 < ((298 : Int) + (IntKind.wrap .i64 ((IntKind.wrap .u64 a1).tmod 5))))) then (
    chk (in64 (x50 + 1)) <|
    (g_newelhelp_Digits n (x50 + 1)).bind fun y54 =>
    chk (room (l48 ++ [(Item.mk (Coord.mk (⟨#[103]⟩ : Str) (⟨#[97]⟩ : Str) y54) emp)]).length 64) <|
    chk (in64 (x50 + 1)) <|
    rec29 (l48 ++ [(Item.mk (Coord.mk (⟨#[103]⟩ : Str) (⟨#[97]⟩ : Str) y54) emp)]) (v49 + 1) (x50 + 1)
  ) else (
    g_newellaw13_IndexNil.k29 n a0 a1 l48 v49
  )
def g_newellaw13_IndexNil.l29 (n : Nat) (a0 : Coord) (a1 : Int) : Nat → (List Item) → Nat → Int → Option (Bool)
  | 0, _, _, _ => none
  | m + 1, l48, v49, x50 => g_newellaw13_IndexNil.l29b n a0 a1 (g_newellaw13_IndexNil.l29 n a0 a1 m) l48 v49 x50
def g_newellaw13_IndexNil (n : Nat) (a0 : Coord) (a1 : Int) : Option (Bool) :=
  chk (in64 ((298 : Int) + (IntKind.wrap .i64 ((IntKind.wrap .u64 a1).tmod 5)))) <|
  g_newellaw13_IndexNil.l29 n a0 a1 n ([] : List Item) 0 0
theorem g_newellaw13_IndexNil.ok (n : Nat) (a0 : Coord) (a1 : Int) (r : Bool) (h : g_newellaw13_IndexNil n a0 a1 = some r) : Impl Tryd.prog 11 [.agg (encCoord a0), .one (dint a1)] [.one (dbool r)] := by
  refine impl_wp tabOk Tryd.func11 rfl rfl (by kernel_rfl) ?_
  unfold g_newellaw13_IndexNil at h
  refine WP_seq ?_
  refine vcc_sound _ _ _ tabOk (by exact rfl) ?_
  repeat (first | refine Ob.mk (by first | rfl | omega | assumption | exact ⟨rfl, rfl, (List.length_map _).symm⟩ | exact ⟨rfl, rfl, by rw [List.length_map]; omega⟩) ?_ | refine Br.t ?_ | refine Br.f ?_)
  refine WP_seq ?_
  refine vcc_sound _ _ _ tabOk (by exact rfl) ?_
  obtain ⟨c1, h⟩ := chk_some h
  repeat (first | refine Ob.mk (by first | rfl | omega | assumption | exact ⟨rfl, rfl, (List.length_map _).symm⟩ | exact ⟨rfl, rfl, by rw [List.length_map]; omega⟩) ?_ | refine Br.t ?_ | refine Br.f ?_)
  refine WP_seq ?_
  refine vcc_sound _ _ _ tabOk (by exact rfl) ?_
  repeat (first | refine Ob.mk (by first | rfl | omega | assumption | exact ⟨rfl, rfl, (List.length_map _).symm⟩ | exact ⟨rfl, rfl, by rw [List.length_map]; omega⟩) ?_ | refine Br.t ?_ | refine Br.f ?_)
  refine WP_seq ?_
  refine WP_seq ?_
  refine vcc_sound _ _ _ tabOk (by exact rfl) ?_
  repeat (first | refine Ob.mk (by first | rfl | omega | assumption | exact ⟨rfl, rfl, (List.length_map _).symm⟩ | exact ⟨rfl, rfl, by rw [List.length_map]; omega⟩) ?_ | refine Br.t ?_ | refine Br.f ?_)
  refine WP_cutQ (α := {p : (List Item) × Nat // g_newellaw13_IndexNil.k29 n a0 a1 p.1 p.2 = some r}) (fun p => ofL [(1, .int ((298 : Int) + (IntKind.wrap .i64 ((IntKind.wrap .u64 a1).tmod 5)))), (2, .ptr 0 0), (5, .h 1 p.1.2 0 p.1.1.length)]) (fun p => [.box 47 ((encCoord a0).map AV.d), .row p.1.2 50 4 (p.1.1.map encItem)]) (WP_block (WP_loop (α := {x : Nat × (List Item) × Nat × Int // g_newellaw13_IndexNil.l29 n a0 a1 x.1 x.2.1 x.2.2.1 x.2.2.2 = some r}) (fun x => ofL [(1, .int ((298 : Int) + (IntKind.wrap .i64 ((IntKind.wrap .u64 a1).tmod 5)))), (2, .ptr 0 0), (5, .h 1 x.1.2.2.1 0 x.1.2.1.length), (6, .int x.1.2.2.2)]) (fun x => [.box 47 ((encCoord a0).map AV.d), .row x.1.2.2.1 50 4 (x.1.2.1.map encItem)]) (fun x => x.1.1) ⟨(n, ([] : List Item), 0, 0), h⟩ ((Sub.nilsRow 5 50 4 rfl).trans (Sub.ofL _ _ (Nat.zero_le _) ⟨rfl, rfl, rfl, rfl, rfl, rfl, rfl, rfl, trivial⟩ rfl rfl)) ?_)) ?_
  rotate_left
  · rintro ⟨⟨l30, v31⟩, h⟩ env st hs
    replace h : g_newellaw13_IndexNil.k29 n a0 a1 l30 v31 = some r := h
    unfold g_newellaw13_IndexNil.k29 at h
    refine WP_sub hs ?_
    try dsimp only
    refine WP_seq ?_
    refine WP_sub (Sub.shutT (s := 1) (k := v31) (n := l30.length) (e := 50) (sz := 4) 5 encItem zItem l30 rfl rfl rfl) ?_
    refine vcc_sound _ _ _ tabOk (by exact rfl) ?_
    obtain ⟨y32, hy32, h⟩ := bind_some h
    repeat (first | refine Ob.mk (by first | rfl | omega | assumption | exact ⟨rfl, rfl, (List.length_map _).symm⟩ | exact ⟨rfl, rfl, by rw [List.length_map]; omega⟩) ?_ | refine Br.t ?_ | refine Br.f ?_)
    refine CallD.mk _ _ (g_index_New.ok n l30 y32 hy32) (by exact ⟨DLe.refl _, trivial⟩) ?_
    repeat (first | refine Ob.mk (by first | rfl | omega | assumption | exact ⟨rfl, rfl, (List.length_map _).symm⟩ | exact ⟨rfl, rfl, by rw [List.length_map]; omega⟩) ?_ | refine Br.t ?_ | refine Br.f ?_)
    refine WP_seq ?_
    refine vcc_sound _ _ _ tabOk (by exact rfl) ?_
    repeat (first | refine Ob.mk (by first | rfl | omega | assumption | exact ⟨rfl, rfl, (List.length_map _).symm⟩ | exact ⟨rfl, rfl, by rw [List.length_map]; omega⟩) ?_ | refine Br.t ?_ | refine Br.f ?_)
    refine WP_seq_cut (α := {p : Int // g_newellaw13_IndexNil.k35 n a0 y32 p = some r}) (fun p => ofL [(2, .ptr 0 0), (8, .int y32.2), (9, .int p.1)]) (fun p => [.box 47 ((encCoord a0).map AV.d)]) ?_ ?_
    rotate_left
    · rintro ⟨x34, h⟩
      replace h : g_newellaw13_IndexNil.k35 n a0 y32 x34 = some r := h
      unfold g_newellaw13_IndexNil.k35 at h
      try dsimp only
      refine WP_seq ?_
      refine vcc_sound _ _ _ tabOk (by exact rfl) ?_
      repeat (first | refine Ob.mk (by first | rfl | omega | assumption | exact ⟨rfl, rfl, (List.length_map _).symm⟩ | exact ⟨rfl, rfl, by rw [List.length_map]; omega⟩) ?_ | refine Br.t ?_ | refine Br.f ?_)
      refine WP_seq ?_
      refine vcc_sound _ _ _ tabOk (by exact rfl) ?_
      obtain ⟨y36, hy36, h⟩ := bind_some h
      repeat (first | refine Ob.mk (by first | rfl | omega | assumption | exact ⟨rfl, rfl, (List.length_map _).symm⟩ | exact ⟨rfl, rfl, by rw [List.length_map]; omega⟩) ?_ | refine Br.t ?_ | refine Br.f ?_)
      refine CallD.mk _ _ (g_index_Index_Find.ok n ixNil a0 y36 hy36) (by exact ⟨dIx_ge ixNil, DLe.refl _, trivial⟩) ?_
      repeat (first | refine Ob.mk (by first | rfl | omega | assumption | exact ⟨rfl, rfl, (List.length_map _).symm⟩ | exact ⟨rfl, rfl, by rw [List.length_map]; omega⟩) ?_ | refine Br.t ?_ | refine Br.f ?_)
      refine WP_seq ?_
      refine vcc_sound _ _ _ tabOk (by exact rfl) ?_
      obtain ⟨y37, hy37, h⟩ := bind_some h
      repeat (first | refine Ob.mk (by first | rfl | omega | assumption | exact ⟨rfl, rfl, (List.length_map _).symm⟩ | exact ⟨rfl, rfl, by rw [List.length_map]; omega⟩) ?_ | refine Br.t ?_ | refine Br.f ?_)
      refine CallD.mk _ _ (g_newellaw13_awake.ok n y37 hy37) (by exact trivial) ?_
      repeat (first | refine Ob.mk (by first | rfl | omega | assumption | exact ⟨rfl, rfl, (List.length_map _).symm⟩ | exact ⟨rfl, rfl, by rw [List.length_map]; omega⟩) ?_ | refine Br.t ?_ | refine Br.f ?_)
      refine Br.mk (fun b38 => ?_) (fun b38 => ?_)
      · replace h := bif_t b38 h
        repeat (first | refine Ob.mk (by first | rfl | omega | assumption | exact ⟨rfl, rfl, (List.length_map _).symm⟩ | exact ⟨rfl, rfl, by rw [List.length_map]; omega⟩) ?_ | refine Br.t ?_ | refine Br.f ?_)
        refine Br.mk (fun b39 => ?_) (fun b39 => ?_)
        · replace h := bif_t b39 h
          repeat (first | refine Ob.mk (by first | rfl | omega | assumption | exact ⟨rfl, rfl, (List.length_map _).symm⟩ | exact ⟨rfl, rfl, by rw [List.length_map]; omega⟩) ?_ | refine Br.t ?_ | refine Br.f ?_)
          refine Br.mk (fun b40 => ?_) (fun b40 => ?_)
          · replace h := bif_t b40 h
            repeat (first | refine Ob.mk (by first | rfl | omega | assumption | exact ⟨rfl, rfl, (List.length_map _).symm⟩ | exact ⟨rfl, rfl, by rw [List.length_map]; omega⟩) ?_ | refine Br.t ?_ | refine Br.f ?_)
            refine Br.mk (fun b41 => ?_) (fun b41 => ?_)
            · replace h := bif_t b41 h
              obtain ⟨y42, hy42, h⟩ := bind_some h
              repeat (first | refine Ob.mk (by first | rfl | omega | assumption | exact ⟨rfl, rfl, (List.length_map _).symm⟩ | exact ⟨rfl, rfl, by rw [List.length_map]; omega⟩) ?_ | refine Br.t ?_ | refine Br.f ?_)
              refine CallD.mk _ _ (g_index_Index_Versions.ok n ixNil a0.group a0.name y42 hy42) (by exact ⟨dIx_ge ixNil, DLe.refl _, DLe.refl _, trivial⟩) ?_
              repeat (first | refine Ob.mk (by first | rfl | omega | assumption | exact ⟨rfl, rfl, (List.length_map _).symm⟩ | exact ⟨rfl, rfl, by rw [List.length_map]; omega⟩) ?_ | refine Br.t ?_ | refine Br.f ?_)
              refine Br.mk (fun b43 => ?_) (fun b43 => ?_)
              · replace h := bif_t b43 h
                obtain ⟨y44, hy44, h⟩ := bind_some h
                repeat (first | refine Ob.mk (by first | rfl | omega | assumption | exact ⟨rfl, rfl, (List.length_map _).symm⟩ | exact ⟨rfl, rfl, by rw [List.length_map]; omega⟩) ?_ | refine Br.t ?_ | refine Br.f ?_)
                refine CallD.mk _ _ (g_index_Index_Len.ok n ixNil y44 hy44) (by exact ⟨dIx_ge ixNil, trivial⟩) ?_
                repeat (first | refine Ob.mk (by first | rfl | omega | assumption | exact ⟨rfl, rfl, (List.length_map _).symm⟩ | exact ⟨rfl, rfl, by rw [List.length_map]; omega⟩) ?_ | refine Br.t ?_ | refine Br.f ?_)
                refine Br.mk (fun b45 => ?_) (fun b45 => ?_)
                · replace h := bif_t b45 h
                  obtain ⟨y46, hy46, h⟩ := bind_some h
                  repeat (first | refine Ob.mk (by first | rfl | omega | assumption | exact ⟨rfl, rfl, (List.length_map _).symm⟩ | exact ⟨rfl, rfl, by rw [List.length_map]; omega⟩) ?_ | refine Br.t ?_ | refine Br.f ?_)
                  refine CallD.mk _ _ (g_index_Index_Coords.ok n ixNil y46 hy46) (by exact ⟨dIx_ge ixNil, trivial⟩) ?_
                  repeat (first | refine Ob.mk (by first | rfl | omega | assumption | exact ⟨rfl, rfl, (List.length_map _).symm⟩ | exact ⟨rfl, rfl, by rw [List.length_map]; omega⟩) ?_ | refine Br.t ?_ | refine Br.f ?_)
                  refine WP_ret ?_
                  obtain rfl := Option.some.inj h
                  repeat (first | refine Ob.mk (by first | rfl | omega | assumption | exact ⟨rfl, rfl, (List.length_map _).symm⟩ | exact ⟨rfl, rfl, by rw [List.length_map]; omega⟩) ?_ | refine Br.t ?_ | refine Br.f ?_)
                  exact ⟨DLe.refl _, trivial⟩
                · replace h := bif_f b45 h
                  repeat (first | refine Ob.mk (by first | rfl | omega | assumption | exact ⟨rfl, rfl, (List.length_map _).symm⟩ | exact ⟨rfl, rfl, by rw [List.length_map]; omega⟩) ?_ | refine Br.t ?_ | refine Br.f ?_)
                  refine WP_ret ?_
                  obtain rfl := Option.some.inj h
                  repeat (first | refine Ob.mk (by first | rfl | omega | assumption | exact ⟨rfl, rfl, (List.length_map _).symm⟩ | exact ⟨rfl, rfl, by rw [List.length_map]; omega⟩) ?_ | refine Br.t ?_ | refine Br.f ?_)
                  exact ⟨DLe.refl _, trivial⟩
              · replace h := bif_f b43 h
                repeat (first | refine Ob.mk (by first | rfl | omega | assumption | exact ⟨rfl, rfl, (List.length_map _).symm⟩ | exact ⟨rfl, rfl, by rw [List.length_map]; omega⟩) ?_ | refine Br.t ?_ | refine Br.f ?_)
                refine WP_ret ?_
                obtain rfl := Option.some.inj h
                repeat (first | refine Ob.mk (by first | rfl | omega | assumption | exact ⟨rfl, rfl, (List.length_map _).symm⟩ | exact ⟨rfl, rfl, by rw [List.length_map]; omega⟩) ?_ | refine Br.t ?_ | refine Br.f ?_)
                exact ⟨DLe.refl _, trivial⟩
            · replace h := bif_f b41 h
              repeat (first | refine Ob.mk (by first | rfl | omega | assumption | exact ⟨rfl, rfl, (List.length_map _).symm⟩ | exact ⟨rfl, rfl, by rw [List.length_map]; omega⟩) ?_ | refine Br.t ?_ | refine Br.f ?_)
              refine WP_ret ?_
              obtain rfl := Option.some.inj h
              repeat (first | refine Ob.mk (by first | rfl | omega | assumption | exact ⟨rfl, rfl, (List.length_map _).symm⟩ | exact ⟨rfl, rfl, by rw [List.length_map]; omega⟩) ?_ | refine Br.t ?_ | refine Br.f ?_)
              exact ⟨DLe.refl _, trivial⟩
          · replace h := bif_f b40 h
            repeat (first | refine Ob.mk (by first | rfl | omega | assumption | exact ⟨rfl, rfl, (List.length_map _).symm⟩ | exact ⟨rfl, rfl, by rw [List.length_map]; omega⟩) ?_ | refine Br.t ?_ | refine Br.f ?_)
            refine WP_ret ?_
            obtain rfl := Option.some.inj h
            repeat (first | refine Ob.mk (by first | rfl | omega | assumption | exact ⟨rfl, rfl, (List.length_map _).symm⟩ | exact ⟨rfl, rfl, by rw [List.length_map]; omega⟩) ?_ | refine Br.t ?_ | refine Br.f ?_)
            exact ⟨DLe.refl _, trivial⟩
        · replace h := bif_f b39 h
          repeat (first | refine Ob.mk (by first | rfl | omega | assumption | exact ⟨rfl, rfl, (List.length_map _).symm⟩ | exact ⟨rfl, rfl, by rw [List.length_map]; omega⟩) ?_ | refine Br.t ?_ | refine Br.f ?_)
          refine WP_ret ?_
          obtain rfl := Option.some.inj h
          repeat (first | refine Ob.mk (by first | rfl | omega | assumption | exact ⟨rfl, rfl, (List.length_map _).symm⟩ | exact ⟨rfl, rfl, by rw [List.length_map]; omega⟩) ?_ | refine Br.t ?_ | refine Br.f ?_)
          exact ⟨DLe.refl _, trivial⟩
      · replace h := bif_f b38 h
        repeat (first | refine Ob.mk (by first | rfl | omega | assumption | exact ⟨rfl, rfl, (List.length_map _).symm⟩ | exact ⟨rfl, rfl, by rw [List.length_map]; omega⟩) ?_ | refine Br.t ?_ | refine Br.f ?_)
        refine WP_ret ?_
        obtain rfl := Option.some.inj h
        repeat (first | refine Ob.mk (by first | rfl | omega | assumption | exact ⟨rfl, rfl, (List.length_map _).symm⟩ | exact ⟨rfl, rfl, by rw [List.length_map]; omega⟩) ?_ | refine Br.t ?_ | refine Br.f ?_)
        exact ⟨DLe.refl _, trivial⟩
    refine WP_seq ?_
    refine vcc_sound _ _ _ tabOk (by exact rfl) ?_
    repeat (first | refine Ob.mk (by first | rfl | omega | assumption | exact ⟨rfl, rfl, (List.length_map _).symm⟩ | exact ⟨rfl, rfl, by rw [List.length_map]; omega⟩) ?_ | refine Br.t ?_ | refine Br.f ?_)
    refine vcc_sound _ _ _ tabOk (by exact rfl) ?_
    repeat (first | refine Ob.mk (by first | rfl | omega | assumption | exact ⟨rfl, rfl, (List.length_map _).symm⟩ | exact ⟨rfl, rfl, by rw [List.length_map]; omega⟩) ?_ | refine Br.t ?_ | refine Br.f ?_)
    refine Br.mk (fun b47 => ?_) (fun b47 => ?_)
    · replace h := bif_t b47 h
      refine vcc_sound _ _ _ tabOk (by exact rfl) ?_
      repeat (first | refine Ob.mk (by first | rfl | omega | assumption | exact ⟨rfl, rfl, (List.length_map _).symm⟩ | exact ⟨rfl, rfl, by rw [List.length_map]; omega⟩) ?_ | refine Br.t ?_ | refine Br.f ?_)
      repeat (first | refine Ob.mk (by first | rfl | omega | assumption | exact ⟨rfl, rfl, (List.length_map _).symm⟩ | exact ⟨rfl, rfl, by rw [List.length_map]; omega⟩) ?_ | refine Br.t ?_ | refine Br.f ?_)
      exact ⟨⟨3, h⟩, Sub.ofL _ _ (Nat.zero_le _) ⟨rfl, rfl, rfl, rfl, rfl, rfl, trivial⟩ rfl rfl⟩
    · replace h := bif_f b47 h
      refine WP_skip ?_
      repeat (first | refine Ob.mk (by first | rfl | omega | assumption | exact ⟨rfl, rfl, (List.length_map _).symm⟩ | exact ⟨rfl, rfl, by rw [List.length_map]; omega⟩) ?_ | refine Br.t ?_ | refine Br.f ?_)
      exact ⟨⟨0, h⟩, Sub.ofL _ _ (Nat.zero_le _) ⟨rfl, rfl, rfl, rfl, rfl, rfl, trivial⟩ rfl rfl⟩
  rintro ⟨⟨m29, l48, v49, x50⟩, h⟩
  cases m29 with
  | zero => exact nomatch (show (none : Option (Bool)) = some r from h)
  | succ m29 =>
    replace h : g_newellaw13_IndexNil.l29b n a0 a1 (g_newellaw13_IndexNil.l29 n a0 a1 m29) l48 v49 x50 = some r := h
    unfold g_newellaw13_IndexNil.l29b at h
    try dsimp only
    refine WP_seq ?_
    refine WP_seq ?_
    refine vcc_sound _ _ _ tabOk (by exact rfl) ?_
    repeat (first | refine Ob.mk (by first | rfl | omega | assumption | exact ⟨rfl, rfl, (List.length_map _).symm⟩ | exact ⟨rfl, rfl, by rw [List.length_map]; omega⟩) ?_ | refine Br.t ?_ | refine Br.f ?_)
    refine vcc_sound _ _ _ tabOk (by exact rfl) ?_
    repeat (first | refine Ob.mk (by first | rfl | omega | assumption | exact ⟨rfl, rfl, (List.length_map _).symm⟩ | exact ⟨rfl, rfl, by rw [List.length_map]; omega⟩) ?_ | refine Br.t ?_ | refine Br.f ?_)
    refine Br.mk (fun b52 => ?_) (fun b52 => ?_)
    · replace h := bif_t b52 h
      refine WP_skip ?_
      refine WP_seq ?_
      refine WP_block ?_
      refine vcc_sound _ _ _ tabOk (by exact rfl) ?_
      obtain ⟨c53, h⟩ := chk_some h
      obtain ⟨y54, hy54, h⟩ := bind_some h
      repeat (first | refine Ob.mk (by first | rfl | omega | assumption | exact ⟨rfl, rfl, (List.length_map _).symm⟩ | exact ⟨rfl, rfl, by rw [List.length_map]; omega⟩) ?_ | refine Br.t ?_ | refine Br.f ?_)
      refine CallD.mk _ _ (g_newelhelp_Digits.ok n (x50 + 1) y54 hy54) (by exact ⟨DLe.refl _, trivial⟩) ?_
      repeat (first | refine Ob.mk (by first | rfl | omega | assumption | exact ⟨rfl, rfl, (List.length_map _).symm⟩ | exact ⟨rfl, rfl, by rw [List.length_map]; omega⟩) ?_ | refine Br.t ?_ | refine Br.f ?_)
      refine NewS.ty encItem zItem [(Item.mk (Coord.mk (⟨#[103]⟩ : Str) (⟨#[97]⟩ : Str) y54) emp)] rfl ?_
      obtain ⟨c55, h⟩ := chk_some h
      repeat (first | refine Ob.mk (by first | rfl | omega | assumption | exact ⟨rfl, rfl, (List.length_map _).symm⟩ | exact ⟨rfl, rfl, by rw [List.length_map]; omega⟩) ?_ | refine Br.t ?_ | refine Br.f ?_)
      refine AppK.ty encItem l48 ([(Item.mk (Coord.mk (⟨#[103]⟩ : Str) (⟨#[97]⟩ : Str) y54) emp)]) rfl rfl ?_ c55 ?_
      · exact rfl
      repeat (first | refine Ob.mk (by first | rfl | omega | assumption | exact ⟨rfl, rfl, (List.length_map _).symm⟩ | exact ⟨rfl, rfl, by rw [List.length_map]; omega⟩) ?_ | refine Br.t ?_ | refine Br.f ?_)
      refine vcc_sound _ _ _ tabOk (by exact rfl) ?_
      obtain ⟨c56, h⟩ := chk_some h
      repeat (first | refine Ob.mk (by first | rfl | omega | assumption | exact ⟨rfl, rfl, (List.length_map _).symm⟩ | exact ⟨rfl, rfl, by rw [List.length_map]; omega⟩) ?_ | refine Br.t ?_ | refine Br.f ?_)
      repeat (first | refine Ob.mk (by first | rfl | omega | assumption | exact ⟨rfl, rfl, (List.length_map _).symm⟩ | exact ⟨rfl, rfl, by rw [List.length_map]; omega⟩) ?_ | refine Br.t ?_ | refine Br.f ?_)
      exact ⟨⟨(m29, (l48 ++ [(Item.mk (Coord.mk (⟨#[103]⟩ : Str) (⟨#[97]⟩ : Str) y54) emp)]), (v49 + 1), (x50 + 1)), h⟩, Nat.lt_succ_self _, Sub.ofL _ _ (Nat.zero_le _) ⟨rfl, rfl, rfl, rfl, rfl, rfl, rfl, rfl, trivial⟩ rfl rfl⟩
    · replace h := bif_f b52 h
      refine WP_exit ?_
      repeat (first | refine Ob.mk (by first | rfl | omega | assumption | exact ⟨rfl, rfl, (List.length_map _).symm⟩ | exact ⟨rfl, rfl, by rw [List.length_map]; omega⟩) ?_ | refine Br.t ?_ | refine Br.f ?_)
      exact ⟨⟨(l48, v49), h⟩, Sub.ofL _ _ (Nat.zero_le _) ⟨rfl, rfl, rfl, rfl, rfl, rfl, trivial⟩ rfl rfl⟩

end Go.Proofs.Nw.K
end
section
/- QL0: sorted lists of versions; a number over another one. -/
open Go Go.RowKit Go.Proofs Go.Sort Go.Shelf
set_option linter.unusedVariables false
set_option linter.unusedSimpArgs false
namespace Go.Proofs.Nw.K

theorem modN2 (a : Int) (k : Nat) (hk : 0 < k) (hk2 : k ≤ 4000000) : ∃ i : Nat, i < k ∧ (IntKind.wrap .u64 a).tmod k = (i : Int) ∧ IntKind.wrap .i64 ((IntKind.wrap .u64 a).tmod k) = (i : Int) := by
  have h0 : 0 ≤ IntKind.wrap .u64 a := by
    simp only [IntKind.wrap, IntKind.bits, IntKind.signed]
    simp
    omega
  have h1 : (IntKind.wrap .u64 a).tmod k = (IntKind.wrap .u64 a) % k := Int.tmod_eq_emod_of_nonneg h0
  have h2 : 0 ≤ (IntKind.wrap .u64 a) % (k : Int) := Int.emod_nonneg _ (by omega)
  have h3 : (IntKind.wrap .u64 a) % (k : Int) < k := Int.emod_lt_of_pos _ (by omega)
  refine ⟨((IntKind.wrap .u64 a) % (k : Int)).toNat, by omega, by rw [h1]; omega, ?_⟩
  rw [h1, wrap_i64_id _ (by omega) (by omega)]
  omega

theorem sortV_perm2 (l : List Str) : (sortV l).Perm l := List.mergeSort_perm l _
theorem sortV_pair2 (l : List Str) : (sortV l).Pairwise fun a b => wholeC a b ≤ 0 := by
  have := List.pairwise_mergeSort (le := fun x y => !(ltOf wholeC) y x) (fun a b c h1 h2 => by
    simp only [ltOf, Bool.not_eq_true', decide_eq_false_iff_not] at *
    have a1 := totC.anti a b
    have a2 := totC.anti b c
    have a3 := totC.anti a c
    have := totC.trans a b c (by omega) (by omega)
    omega) (fun a b => by
    simp only [ltOf, Bool.or_eq_true, Bool.not_eq_true', decide_eq_false_iff_not]
    have := totC.anti a b
    omega) l
  refine List.Pairwise.imp (fun {a b} h => ?_) this
  simp only [ltOf, Bool.not_eq_true', decide_eq_false_iff_not] at h
  have := totC.anti a b
  omega
theorem sortV_same2 {a b : List Str} (h : a.Perm b) : sortV a = sortV b :=
  List.Perm.eq_of_pairwise (fun x y _ _ h1 h2 => wholeC_zero (by have := totC.anti x y; omega)) (sortV_pair2 a) (sortV_pair2 b) (((sortV_perm2 a).trans h).trans (sortV_perm2 b).symm)


end Go.Proofs.Nw.K
end
section
/- QL10: plain law IndexNil; which items are taken. -/
open Go Go.RowKit Go.Proofs Go.Sort Go.Shelf
set_option linter.unusedVariables false
set_option linter.unusedSimpArgs false
namespace Go.Proofs.Nw.K

theorem fnd_textT (c : Coord) : ∀ (d : List Item), (fndM c (textT d)).isSome = decide (c ∈ d.map (·.coord))
  | [] => rfl
  | it :: r => by
    have ih := fnd_textT c r
    unfold textT at *
    simp only [List.map_cons, fndM, List.mem_cons]
    by_cases h : c = it.coord
    · simp [h]
    · simp only [h, if_false, false_or, Option.isSome_map, ih]
theorem newGo_zero (ok : Coord → Bool) : ∀ (r d : List Item), newGo d ok r = 0 ↔ (∀ it ∈ r, ok it.coord = true) ∧ (r.map (·.coord)).Nodup ∧ ∀ it ∈ r, it.coord ∉ d.map (·.coord)
  | [], d => by simp [newGo]
  | x :: r, d => by
    have ih := newGo_zero ok r (d ++ [x])
    unfold newGo
    cases h1 : ok x.coord with
    | false =>
      simp only [cond_false]
      constructor
      · intro h; cases h
      · rintro ⟨h, _⟩
        have := h x (by simp)
        rw [h1] at this; cases this
    | true =>
      rw [cond_true, fnd_textT]
      by_cases h2 : x.coord ∈ d.map (·.coord)
      · rw [decide_eq_true h2, cond_true]
        constructor
        · intro h; cases h
        · rintro ⟨_, _, h⟩
          exact absurd h2 (h x (by simp))
      · rw [decide_eq_false h2, cond_false, ih]
        simp only [List.map_append, List.map_cons, List.map_nil, List.mem_append, List.mem_cons, List.not_mem_nil, or_false, not_or, List.nodup_cons]
        constructor
        · rintro ⟨h3, h4, h5⟩
          refine ⟨fun it hi => ?_, ⟨fun hm => ?_, h4⟩, fun it hi => ?_⟩
          · rcases hi with rfl | hi
            · exact h1
            · exact h3 it hi
          · obtain ⟨it, hi, he⟩ := List.mem_map.1 hm
            exact (h5 it hi).2 he
          · rcases hi with rfl | hi
            · exact h2
            · exact (h5 it hi).1
        · rintro ⟨h3, ⟨h4, h5⟩, h6⟩
          refine ⟨fun it hi => h3 it (Or.inr hi), h5, fun it hi => ⟨h6 it (Or.inr hi), fun he => h4 ?_⟩⟩
          rw [← he]
          exact List.mem_map.2 ⟨it, hi, rfl⟩
theorem newE_zero (ok : Coord → Bool) (l : List Item) : newE ok l = 0 ↔ l.length ≤ 300 ∧ (∀ it ∈ l, ok it.coord = true) ∧ (l.map (·.coord)).Nodup := by
  unfold newE
  by_cases h : (l.length : Int) > 300
  · rw [decide_eq_true h, cond_true]
    constructor
    · intro h; cases h
    · rintro ⟨h1, _⟩; omega
  · rw [decide_eq_false h, cond_false, newGo_zero]
    constructor
    · rintro ⟨h1, h2, _⟩; exact ⟨by omega, h1, h2⟩
    · rintro ⟨_, h1, h2⟩; exact ⟨h1, h2, fun it _ => by simp⟩

/-! ### IndexNil -/
def dn (m : Nat) : Str := (g_newelhelp_Digits 310 (m : Int)).getD emp
def itN (j : Nat) : Item := ⟨⟨⟨#[103]⟩, ⟨#[97]⟩, dn (j + 1)⟩, emp⟩
def valD (s : Str) : Nat := s.data.toList.foldl (fun a b => a * 10 + (b.toNat - 48)) 0
theorem dn0 : ((List.range 302).all fun m => (g_newelhelp_Digits 310 ((m + 1 : Nat) : Int)).isSome) = true := by kernel_rfl
theorem dn1 : ((List.range 302).all fun m => valD (dn (m + 1)) == m + 1) = true := by kernel_rfl
theorem dn2 : ((List.range 300).all fun m => okC (itN m).coord) = true := by kernel_rfl
theorem dn_some (m : Nat) (h : m < 302) : g_newelhelp_Digits 310 ((m : Int) + 1) = some (dn (m + 1)) := by
  have h := List.all_eq_true.1 dn0 m (List.mem_range.2 h)
  obtain ⟨v, hv⟩ := Option.isSome_iff_exists.1 h
  rw [dn, hv, show (m : Int) + 1 = ((m + 1 : Nat) : Int) by omega, hv]
  rfl
theorem dn_inj (i j : Nat) (hi : i < 302) (hj : j < 302) (h : dn (i + 1) = dn (j + 1)) : i = j := by
  have h1 := List.all_eq_true.1 dn1 i (List.mem_range.2 hi)
  have h2 := List.all_eq_true.1 dn1 j (List.mem_range.2 hj)
  have h1 : valD (dn (i + 1)) = i + 1 := by simpa using h1
  have h2 : valD (dn (j + 1)) = j + 1 := by simpa using h2
  rw [h] at h1
  omega
def itsN (k : Nat) : List Item := (List.range k).map itN
theorem itsN_snoc (k : Nat) : itsN k ++ [itN k] = itsN (k + 1) := by simp [itsN, List.range_succ]
theorem itsN_length (k : Nat) : (itsN k).length = k := by simp [itsN]
theorem newE_N (k : Nat) (h : k ≤ 302) : newE okC (itsN k) = if k ≤ 300 then 0 else 3 := by
  by_cases hk : k ≤ 300
  · rw [if_pos hk, newE_zero, itsN_length]
    refine ⟨hk, fun it hi => ?_, ?_⟩
    · obtain ⟨j, hj, rfl⟩ := List.mem_map.1 hi
      have hj := List.mem_range.1 hj
      exact List.all_eq_true.1 dn2 j (List.mem_range.2 (by omega))
    · rw [itsN, List.map_map, List.nodup_iff_pairwise_ne, List.pairwise_map]
      refine List.Pairwise.imp_of_mem (fun {a b} ha hb hab he => ?_) List.nodup_range
      have ha := List.mem_range.1 ha
      have hb := List.mem_range.1 hb
      have e : dn (a + 1) = dn (b + 1) := congrArg Coord.version he
      exact hab (dn_inj a b (by omega) (by omega) e)
  · rw [if_neg hk]
    unfold newE
    rw [itsN_length, decide_eq_true (by omega), cond_true]
theorem nil_k35 (n : Nat) (c : Coord) (y : IxT × Int) (x : Int) (h : y.2 = x) : g_newellaw13_IndexNil.k35 n c y x = some true := by
  subst h
  unfold g_newellaw13_IndexNil.k35 g_index_Index_Find g_newellaw13_awake
  rw [Option.bind_some, Option.bind_some, cond_true, beq_self_eq_true, cond_true, show (findI c ixNil.val).fst = emp from rfl, beq_self_eq_true, cond_true]
  rfl
theorem nil_loop (c : Coord) (n : Int) (N : Nat) (hN : N ≤ 302) (hN2 : 298 ≤ N) (e : (298 : Int) + (IntKind.wrap .i64 ((IntKind.wrap .u64 n).tmod 5)) = N) : ∀ (f k v : Nat), k ≤ N → N < k + f → g_newellaw13_IndexNil.l29 310 c n f (itsN k) v (k : Int) = some true
  | 0, k, v, h1, h2 => by omega
  | f + 1, k, v, h1, h2 => by
    unfold g_newellaw13_IndexNil.l29 g_newellaw13_IndexNil.l29b
    rw [e]
    by_cases hk : (k : Int) < (N : Int)
    · have hl := itsN_length k
      rw [decide_eq_true hk, cond_true, chk_t (by unfold in64; omega), dn_some k (by omega), Option.bind_some]
      have e2 : itsN k ++ [(Item.mk (Coord.mk (⟨#[103]⟩ : Str) (⟨#[97]⟩ : Str) (dn (k + 1))) emp)] = itsN (k + 1) := itsN_snoc k
      rw [e2, itsN_length, chk_t (by unfold room; omega), chk_t (by unfold in64; omega), show (k : Int) + 1 = ((k + 1 : Nat) : Int) by omega]
      exact nil_loop c n N hN hN2 e f (k + 1) (v + 1) (by omega) (by omega)
    · have hkN : k = N := by omega
      subst hkN
      rw [decide_eq_false hk, cond_false]
      unfold g_newellaw13_IndexNil.k29 g_index_New
      rw [Option.bind_some, e]
      have h3 := newE_N k hN
      by_cases hb : (k : Int) > 300
      · rw [decide_eq_true hb, cond_true]
        rw [if_neg (by omega)] at h3
        exact nil_k35 _ _ _ _ h3
      · rw [decide_eq_false hb, cond_false]
        rw [if_pos (by omega)] at h3
        exact nil_k35 _ _ _ _ h3
theorem indexNil_eq (c : Coord) (n : Int) : g_newellaw13_IndexNil 310 c n = some true := by
  obtain ⟨i, hi, _, e⟩ := modN2 n 5 (by decide) (by decide)
  have e' : (298 : Int) + (IntKind.wrap .i64 ((IntKind.wrap .u64 n).tmod 5)) = ((298 + i : Nat) : Int) := by
    have : (IntKind.wrap .i64 ((IntKind.wrap .u64 n).tmod 5)) = (i : Int) := e
    rw [this]; omega
  unfold g_newellaw13_IndexNil
  rw [e', chk_t (by unfold in64; omega)]
  exact nil_loop c n (298 + i) (by omega) (by omega) e' 310 0 0 (by omega) (by omega)
theorem IndexNil_impl (c : Coord) (n : Int) (_ : True) (_ : isInt n) (h : c.wt + 1 ≤ 1048576) : Impl Tryd.prog 11 [.agg (encCoord c), .one (dint n)] [.one (.sc (.bool true))] :=
  g_newellaw13_IndexNil.ok 310 c n true (indexNil_eq c n)
end Go.Proofs.Nw.K
end
