/- Bundle 8: NwZ8, NwK24, NwK25, NwV3, NwZM1. -/
import Derived.Test.YtblenipidihemaaGreatDoorNwA7
section
/- Q8: a version's words; two versions. -/
open Go Go.RowKit Go.Proofs
set_option linter.unusedVariables false
set_option linter.unusedSimpArgs false
namespace Go.Proofs.Nw.K

def wordOf (p : Pt) : Wd := if !(p.text.toList == emp.toList) && !digitB (byteAt p.text 0) then lettersOf p else if (trim0 p.text).toList == emp.toList then ⟨6, emp⟩ else if p.dash then ⟨9, trim0 p.text⟩ else ⟨10, trim0 p.text⟩

theorem size_pos {s : Str} (h : (!(s.toList == emp.toList)) = true) : 0 < s.size := by
  rcases Nat.eq_zero_or_pos s.size with h0 | h0
  · have : s = emp := by
      apply str_ext
      have := str_size s
      rw [h0] at this
      exact List.length_eq_zero_iff.1 this.symm
    rw [this] at h
    simp at h
  · exact h0

theorem partWord_impl (p : Pt) (hp : p.text.size ≤ maxLen) : Impl Tryz.prog 115 [.agg (encPt p)] [.agg (encWd (wordOf p))] := by
  refine impl_c tabOk Tryz.func115 rfl rfl (by kernel_rfl) (by kernel_rfl) ?_
  have rest : (!(p.text.toList == emp.toList) && !digitB (byteAt p.text 0)) = false → wordOf p = if (trim0 p.text).toList == emp.toList then ⟨6, emp⟩ else if p.dash then ⟨9, trim0 p.text⟩ else ⟨10, trim0 p.text⟩ := fun h => by unfold wordOf; rw [h]; rfl
  repeat (first | refine Ob.mk (by first | rfl | omega | assumption) ?_ | refine Br.t ?_ | refine Br.f ?_ | refine vcc_sound _ _ _ tabOk (by exact rfl) ?_)
  refine Br.mk (fun (h : (!(p.text.toList == emp.toList)) = true) => ?_) (fun (h : (!(p.text.toList == emp.toList)) = false) => ?_)
  · have hs := size_pos h
    repeat (first | refine Ob.mk (by first | rfl | omega | assumption) ?_ | refine Br.t ?_ | refine Br.f ?_ | refine vcc_sound _ _ _ tabOk (by exact rfl) ?_)
    refine CallD.of (Digit_impl (byteAt p.text 0)) ?_
    repeat (first | refine Ob.mk (by first | rfl | omega | assumption) ?_ | refine Br.t ?_ | refine Br.f ?_ | refine vcc_sound _ _ _ tabOk (by exact rfl) ?_)
    refine Br.mk (fun (h2 : (!digitB (byteAt p.text 0)) = true) => ?_) (fun (h2 : (!digitB (byteAt p.text 0)) = false) => ?_)
    · repeat (first | refine Ob.mk (by first | rfl | omega | assumption) ?_ | refine Br.t ?_ | refine Br.f ?_ | refine vcc_sound _ _ _ tabOk (by exact rfl) ?_)
      repeat (first | refine Ob.mk (by first | rfl | omega | assumption) ?_ | refine Br.t ?_ | refine Br.f ?_ | refine vcc_sound _ _ _ tabOk (by exact rfl) ?_)
      refine CallD.of (letters_impl p) ?_
      repeat (first | refine Ob.mk (by first | rfl | omega | assumption) ?_ | refine Br.t ?_ | refine Br.f ?_ | refine vcc_sound _ _ _ tabOk (by exact rfl) ?_)
      refine And.intro (DLe.of_eq ?_) trivial
      unfold wordOf
      rw [h, h2]; rfl
    · have hr := rest (by rw [h, h2]; rfl)
      repeat (first | refine Ob.mk (by first | rfl | omega | assumption) ?_ | refine Br.t ?_ | refine Br.f ?_ | refine vcc_sound _ _ _ tabOk (by exact rfl) ?_)
      refine CallD.of (TrimLeft_impl p.text hp) ?_
      repeat (first | refine Ob.mk (by first | rfl | omega | assumption) ?_ | refine Br.t ?_ | refine Br.f ?_ | refine vcc_sound _ _ _ tabOk (by exact rfl) ?_)
      refine Br.mk (fun (h3 : ((trim0 p.text).toList == emp.toList) = true) => ?_) (fun (h3 : ((trim0 p.text).toList == emp.toList) = false) => ?_)
      · repeat (first | refine Ob.mk (by first | rfl | omega | assumption) ?_ | refine Br.t ?_ | refine Br.f ?_ | refine vcc_sound _ _ _ tabOk (by exact rfl) ?_)
        repeat (first | refine Ob.mk (by first | rfl | omega | assumption) ?_ | refine Br.t ?_ | refine Br.f ?_ | refine vcc_sound _ _ _ tabOk (by exact rfl) ?_)
        refine And.intro (DLe.of_eq ?_) trivial
        rw [hr, h3]; rfl
      · repeat (first | refine Ob.mk (by first | rfl | omega | assumption) ?_ | refine Br.t ?_ | refine Br.f ?_ | refine vcc_sound _ _ _ tabOk (by exact rfl) ?_)
        repeat (first | refine Ob.mk (by first | rfl | omega | assumption) ?_ | refine Br.t ?_ | refine Br.f ?_ | refine vcc_sound _ _ _ tabOk (by exact rfl) ?_)
        refine Br.mk (fun (h4 : (p.dash) = true) => ?_) (fun (h4 : (p.dash) = false) => ?_)
        · repeat (first | refine Ob.mk (by first | rfl | omega | assumption) ?_ | refine Br.t ?_ | refine Br.f ?_ | refine vcc_sound _ _ _ tabOk (by exact rfl) ?_)
          repeat (first | refine Ob.mk (by first | rfl | omega | assumption) ?_ | refine Br.t ?_ | refine Br.f ?_ | refine vcc_sound _ _ _ tabOk (by exact rfl) ?_)
          refine And.intro (DLe.of_eq ?_) trivial
          rw [hr, h3, h4]; rfl
        · repeat (first | refine Ob.mk (by first | rfl | omega | assumption) ?_ | refine Br.t ?_ | refine Br.f ?_ | refine vcc_sound _ _ _ tabOk (by exact rfl) ?_)
          repeat (first | refine Ob.mk (by first | rfl | omega | assumption) ?_ | refine Br.t ?_ | refine Br.f ?_ | refine vcc_sound _ _ _ tabOk (by exact rfl) ?_)
          refine And.intro (DLe.of_eq ?_) trivial
          rw [hr, h3, h4]; rfl
  · have hr := rest (by rw [h]; rfl)
    repeat (first | refine Ob.mk (by first | rfl | omega | assumption) ?_ | refine Br.t ?_ | refine Br.f ?_ | refine vcc_sound _ _ _ tabOk (by exact rfl) ?_)
    refine CallD.of (TrimLeft_impl p.text hp) ?_
    repeat (first | refine Ob.mk (by first | rfl | omega | assumption) ?_ | refine Br.t ?_ | refine Br.f ?_ | refine vcc_sound _ _ _ tabOk (by exact rfl) ?_)
    refine Br.mk (fun (h3 : ((trim0 p.text).toList == emp.toList) = true) => ?_) (fun (h3 : ((trim0 p.text).toList == emp.toList) = false) => ?_)
    · repeat (first | refine Ob.mk (by first | rfl | omega | assumption) ?_ | refine Br.t ?_ | refine Br.f ?_ | refine vcc_sound _ _ _ tabOk (by exact rfl) ?_)
      repeat (first | refine Ob.mk (by first | rfl | omega | assumption) ?_ | refine Br.t ?_ | refine Br.f ?_ | refine vcc_sound _ _ _ tabOk (by exact rfl) ?_)
      refine And.intro (DLe.of_eq ?_) trivial
      rw [hr, h3]; rfl
    · repeat (first | refine Ob.mk (by first | rfl | omega | assumption) ?_ | refine Br.t ?_ | refine Br.f ?_ | refine vcc_sound _ _ _ tabOk (by exact rfl) ?_)
      repeat (first | refine Ob.mk (by first | rfl | omega | assumption) ?_ | refine Br.t ?_ | refine Br.f ?_ | refine vcc_sound _ _ _ tabOk (by exact rfl) ?_)
      refine Br.mk (fun (h4 : (p.dash) = true) => ?_) (fun (h4 : (p.dash) = false) => ?_)
      · repeat (first | refine Ob.mk (by first | rfl | omega | assumption) ?_ | refine Br.t ?_ | refine Br.f ?_ | refine vcc_sound _ _ _ tabOk (by exact rfl) ?_)
        repeat (first | refine Ob.mk (by first | rfl | omega | assumption) ?_ | refine Br.t ?_ | refine Br.f ?_ | refine vcc_sound _ _ _ tabOk (by exact rfl) ?_)
        refine And.intro (DLe.of_eq ?_) trivial
        rw [hr, h3, h4]; rfl
      · repeat (first | refine Ob.mk (by first | rfl | omega | assumption) ?_ | refine Br.t ?_ | refine Br.f ?_ | refine vcc_sound _ _ _ tabOk (by exact rfl) ?_)
        repeat (first | refine Ob.mk (by first | rfl | omega | assumption) ?_ | refine Br.t ?_ | refine Br.f ?_ | refine vcc_sound _ _ _ tabOk (by exact rfl) ?_)
        refine And.intro (DLe.of_eq ?_) trivial
        rw [hr, h3, h4]; rfl

def lastW (out : List Wd) : Wd := out.getD (out.length - 1) zWd
def keepB (out : List Wd) (w : Wd) : Bool := w.kind != 6 || (decide ((out.length : Int) > 0) && ((lastW out).kind == 6 || (lastW out).kind == 10))
def splitStep (out : List Wd) (p : Pt) : List Wd := if keepB out (wordOf p) then out ++ [wordOf p] else out
def splitRev (l : List Pt) : List Wd := l.reverse.foldl splitStep []
def splitOf (v : Str) : List Wd := (splitRev (partsOf (lowerOf v))).reverse

theorem splitRev_length (l : List Pt) : (splitRev l).length ≤ l.length := by
  have key : ∀ (l : List Pt) (o : List Wd), (l.foldl splitStep o).length ≤ o.length + l.length := by
    intro l
    induction l with
    | nil => intro o; simp
    | cons p r ih =>
      intro o
      have h1 := ih (splitStep o p)
      have h2 : (splitStep o p).length ≤ o.length + 1 := by unfold splitStep; split <;> simp
      simp only [List.foldl_cons, List.length_cons]
      omega
  have := key l.reverse []
  simpa [splitRev] using this
theorem partsOf_length (v : Str) : (partsOf v).length ≤ v.size + 1 := by
  have h := foldP_length v.data.toList v.data.toList.length
  rw [List.take_of_length_le (Nat.le_refl _)] at h
  have := str_size v
  unfold partsOf allP
  simp
  omega
theorem partsOf_text (v : Str) (p : Pt) (hp : p ∈ partsOf v) (hv : v.size ≤ maxLen) : p.text.size ≤ maxLen := by
  have key : ∀ (l : List UInt8) (q : List Pt × Pt) (n : Nat), (∀ p ∈ allP q, p.text.size ≤ n) → ∀ p ∈ allP (l.foldl stepP q), p.text.size ≤ n + l.length := by
    intro l
    induction l with
    | nil => intro q n h p hp; simpa using h p hp
    | cons b r ih =>
      intro q n h p hp
      have hb : (one b).size = 1 := rfl
      have := ih (stepP q b) (n + 1) (fun p hp => by
        unfold stepP at hp
        split at hp
        · simp only [allP, List.mem_append, List.mem_singleton] at hp
          rcases hp with (hp | rfl) | rfl
          · have := h p (by simp [allP, hp]); omega
          · have := h q.2 (by simp [allP]); omega
          · show (0 : Nat) ≤ _; omega
        · split at hp
          · simp only [allP, List.mem_append, List.mem_singleton] at hp
            rcases hp with (hp | rfl) | rfl
            · have := h p (by simp [allP, hp]); omega
            · have := h q.2 (by simp [allP]); show q.2.text.size ≤ _; omega
            · show (one b).size ≤ _; omega
          · simp only [allP, List.mem_append, List.mem_singleton] at hp
            rcases hp with hp | rfl
            · have := h p (by simp [allP, hp]); omega
            · have := h q.2 (by simp [allP])
              show (q.2.text ++ one b).size ≤ _
              rw [app_size]; omega) p hp
      simp only [List.length_cons]; omega
  have := key v.data.toList ([], zPt) 0 (fun p hp => by simp [allP] at hp; subst hp; exact Nat.le_refl _) p hp
  have h2 := str_size v
  omega
theorem splitRev_at (l : List Pt) (j : Nat) (h : j < l.length) : splitRev (l.drop j) = splitStep (splitRev (l.drop (j + 1))) l[j] := by
  unfold splitRev
  rw [List.drop_eq_getElem_cons h, List.reverse_cons, List.foldl_append]
  rfl

set_option maxHeartbeats 400000 in
theorem Split_impl (v : Str) (hv : v.size ≤ 4194303) : Impl Tryz.prog 85 [.one (dstr v)] [.one (dWds (splitOf v))] := by
  have hM : maxLen = 9223372036854775807 := rfl
  have hlow : (lowerOf v).size = v.size := lowerOf_size v
  have hpl := partsOf_length (lowerOf v)
  have htx : ∀ p ∈ partsOf (lowerOf v), p.text.size ≤ maxLen := fun p hp => partsOf_text _ _ hp (by omega)
  generalize hP : partsOf (lowerOf v) = ps at *
  have hout : ∀ j, (splitRev (ps.drop j)).length ≤ 4194305 := fun j => by have := splitRev_length (ps.drop j); simp at this; omega
  refine impl_c tabOk Tryz.func85 rfl rfl (by kernel_rfl) (by kernel_rfl) ?_
  repeat (first | refine Ob.mk (by first | rfl | omega | assumption) ?_ | refine Br.t ?_ | refine Br.f ?_ | refine vcc_sound _ _ _ tabOk (by exact rfl) ?_)
  refine WP_scope_cut (α := {x : Nat × Nat // x.1 ≤ ps.length}) 0 (fun x => ofL [(3, .h 0 x.1.2 0 (splitRev (ps.drop x.1.1)).length), (4, .d (dPts (ps.take x.1.1)))]) (fun x => [.row x.1.2 94 2 ((splitRev (ps.drop x.1.1)).map encWd)]) (fun x => x.1.1) (by rfl) (fun x => ?_) (fun again => ?_)
  rotate_left
  · repeat (first | refine Ob.mk (by first | rfl | omega | assumption) ?_ | refine Br.t ?_ | refine Br.f ?_ | refine vcc_sound _ _ _ tabOk (by exact rfl) ?_)
    repeat (first | refine Ob.mk (by first | rfl | omega | assumption) ?_ | refine Br.t ?_ | refine Br.f ?_ | refine vcc_sound _ _ _ tabOk (by exact rfl) ?_)
    refine CallD.of (Lower_impl v (by omega)) ?_
    repeat (first | refine Ob.mk (by first | rfl | omega | assumption) ?_ | refine Br.t ?_ | refine Br.f ?_ | refine vcc_sound _ _ _ tabOk (by exact rfl) ?_)
    refine CallD.of (hP ▸ parts_impl (lowerOf v) (by omega)) ?_
    repeat (first | refine Ob.mk (by first | rfl | omega | assumption) ?_ | refine Br.t ?_ | refine Br.f ?_ | refine vcc_sound _ _ _ tabOk (by exact rfl) ?_)
    refine again ⟨(ps.length, 0), Nat.le_refl _⟩ _ _ ((Sub.nilsRow 3 94 2 rfl).trans (Sub.ofL _ _ (Nat.zero_le _) ⟨?_, rfl, ?_, rfl, trivial⟩ ?_ rfl))
    · show AV.h 0 0 0 0 = AV.h 0 0 0 (splitRev (ps.drop ps.length)).length
      rw [List.drop_length]; rfl
    · show AV.d (dPts ps) = AV.d (dPts (ps.take ps.length))
      rw [List.take_length]
    · show [AO.row 0 94 2 []] = [AO.row 0 94 2 ((splitRev (ps.drop ps.length)).map encWd)]
      rw [List.drop_length]; rfl
  obtain ⟨⟨j, k⟩, hj⟩ := x
  have hj : j ≤ ps.length := hj
  dsimp only
  have hoj := hout j
  have hlen : (ps.take j).length = j := by rw [List.length_take]; omega
  repeat (first | refine Ob.mk (by first | rfl | omega | assumption) ?_ | refine Br.t ?_ | refine Br.f ?_ | refine vcc_sound _ _ _ tabOk (by exact rfl) ?_)
  refine Br.mk (fun h => ?_) (fun h => ?_)
  · have h0 : j = 0 := by rw [hlen] at h; have := eq_of_beq h; omega
    subst h0
    repeat (first | refine Ob.mk (by first | rfl | omega | assumption) ?_ | refine Br.t ?_ | refine Br.f ?_ | refine vcc_sound _ _ _ tabOk (by exact rfl) ?_)
    refine CallE.eff _ _ (reverse_eff k (splitRev (ps.drop 0)) (by have := splitRev_length (ps.drop 0); rw [List.drop_zero] at this ⊢; omega)) ?_
    repeat (first | refine Ob.mk (by first | rfl | omega | assumption) ?_ | refine Br.t ?_ | refine Br.f ?_ | refine vcc_sound _ _ _ tabOk (by exact rfl) ?_)
    refine Ob.mk ⟨rfl, rfl, by simp⟩ ?_
    refine And.intro (DLe.tl _ ?_) trivial
    show (splitRev (ps.drop 0)).reverse.map encWd = (splitOf v).map encWd
    unfold splitOf
    rw [hP]; rfl
  · have h0 : j ≠ 0 := fun e => by rw [hlen, e] at h; cases h
    obtain ⟨i, rfl⟩ : ∃ i, j = i + 1 := ⟨j - 1, by omega⟩
    have hi : i < ps.length := by omega
    have hstep := splitRev_at ps i hi
    have hg : (ps.take (i + 1)).getD (((ps.take (i + 1)).length : Int) - 1).toNat zPt = ps[i] := by
      rw [hlen, show (((i + 1 : Nat) : Int) - 1).toNat = i by omega, List.getD_eq_getElem?_getD, List.getElem?_take_of_lt (by omega), List.getElem?_eq_getElem hi]; rfl
    have ht := htx ps[i] (List.getElem_mem hi)
    generalize splitRev (ps.drop (i + 1)) = out at *
    generalize ps[i] = p at *
    have hlz : ((ps.take (i + 1)).length : Int) = (i : Int) + 1 := by rw [hlen]; omega
    repeat (first | refine Ob.mk (by first | rfl | omega | assumption) ?_ | refine Br.t ?_ | refine Br.f ?_ | refine vcc_sound _ _ _ tabOk (by exact rfl) ?_)
    refine CallD.mk _ _ (partWord_impl p ht) (⟨DLe.of_eq (congrArg (fun q => DV.agg (encPt q)) hg), trivial⟩) ?_
    repeat (first | refine Ob.mk (by first | rfl | omega | assumption) ?_ | refine Br.t ?_ | refine Br.f ?_)
    refine vcc_sound _ _ _ tabOk (by kernel_rfl) ?_
    repeat (first | refine Ob.mk (by first | rfl | omega | assumption) ?_ | refine Br.t ?_ | refine Br.f ?_)
    refine WP_sub (env' := ofL [(3, .h 0 k 0 out.length), (4, .d (dPts (ps.take i))), (5, .ptr 1 0)]) (st' := [.row k 94 2 (out.map encWd), .box 94 [.d (dint (wordOf p).kind), .d (dstr (wordOf p).text)]]) ?_ ?_
    · refine Sub.ofL _ _ (Nat.zero_le _) ⟨rfl, rfl, ?_, rfl, rfl, rfl, trivial⟩ rfl rfl
      show AV.d (dPts (((ps.take (i + 1)).take (((ps.take (i + 1)).length : Int) - 1).toNat).drop 0)) = _
      rw [hlen, show (((i + 1 : Nat) : Int) - 1).toNat = i by omega, List.take_take, List.drop_zero, Nat.min_eq_left (by omega)]
    have hst : splitStep out p = if keepB out (wordOf p) then out ++ [wordOf p] else out := rfl
    generalize wordOf p = w at *
    refine WP_seq (WP_seq_cut (α := Unit) (fun _ => ofL [(3, .h 0 k 0 out.length), (4, .d (dPts (ps.take i))), (5, .ptr 1 0), (54, .bool (keepB out w))]) (fun _ => [.row k 94 2 (out.map encWd), .box 94 [.d (dint w.kind), .d (dstr w.text)]]) (vcc_sound _ _ _ tabOk (by kernel_rfl) ?_) (fun _ => ?_))
    · have fin : ∀ (b : Bool) env st, keepB out w = b → env 3 = .h 0 k 0 out.length → env 4 = .d (dPts (ps.take i)) → env 5 = .ptr 1 0 → env 54 = .bool b → st = [.row k 94 2 (out.map encWd), .box 94 [.d (dint w.kind), .d (dstr w.text)]] → ∃ _ : Unit, Sub ⟨Tryz.f85.ntmps, 0⟩ env st (ofL [(3, .h 0 k 0 out.length), (4, .d (dPts (ps.take i))), (5, .ptr 1 0), (54, .bool (keepB out w))]) [.row k 94 2 (out.map encWd), .box 94 [.d (dint w.kind), .d (dstr w.text)]] := fun b env st hb h3 h4 h5 h54 hs =>
        ⟨(), Sub.ofL _ _ (Nat.zero_le _) ⟨h3, rfl, h4, rfl, h5, rfl, by rw [h54, hb], rfl, trivial⟩ (by rw [hs]; rfl) rfl⟩
      repeat (first | refine Ob.mk (by first | rfl | omega | assumption) ?_ | refine Br.t ?_ | refine Br.f ?_ | refine vcc_sound _ _ _ tabOk (by exact rfl) ?_)
      refine Br.mk (fun (h6 : (w.kind != 6) = true) => ?_) (fun (h6 : (w.kind != 6) = false) => ?_)
      · repeat (first | refine Ob.mk (by first | rfl | omega | assumption) ?_ | refine Br.t ?_ | refine Br.f ?_)
        refine fin true _ _ (by unfold keepB; rw [h6]; rfl) rfl rfl rfl rfl rfl
      repeat (first | refine Ob.mk (by first | rfl | omega | assumption) ?_ | refine Br.t ?_ | refine Br.f ?_)
      repeat (first | refine Ob.mk (by first | rfl | omega | assumption) ?_ | refine Br.t ?_ | refine Br.f ?_ | refine vcc_sound _ _ _ tabOk (by exact rfl) ?_)
      refine Br.mk (fun (hl : (decide ((out.length : Int) > 0)) = true) => ?_) (fun (hl : (decide ((out.length : Int) > 0)) = false) => ?_)
      rotate_left
      · repeat (first | refine Ob.mk (by first | rfl | omega | assumption) ?_ | refine Br.t ?_ | refine Br.f ?_)
        refine fin false _ _ (by unfold keepB; rw [h6, hl]; rfl) rfl rfl rfl rfl rfl
      have hpos := of_decide_eq_true hl
      have hrow : (out.map encWd)[((out.length : Int) - 1).toNat]? = some (encWd (lastW out)) := by
        rw [show ((out.length : Int) - 1).toNat = out.length - 1 by omega, List.getElem?_map, List.getElem?_eq_getElem (by omega)]
        unfold lastW
        rw [List.getD_eq_getElem?_getD, List.getElem?_eq_getElem (by omega)]; rfl
      repeat (first | refine Ob.mk (by first | rfl | omega | assumption) ?_ | refine Br.t ?_ | refine Br.f ?_ | refine vcc_sound _ _ _ tabOk (by exact rfl) ?_)
      refine RowAt.mk _ (hrow) ?_
      repeat (first | refine Ob.mk (by first | rfl | omega | assumption) ?_ | refine Br.t ?_ | refine Br.f ?_ | refine vcc_sound _ _ _ tabOk (by exact rfl) ?_)
      refine Br.mk (fun (ha : ((lastW out).kind == 6) = true) => ?_) (fun (ha : ((lastW out).kind == 6) = false) => ?_)
      · repeat (first | refine Ob.mk (by first | rfl | omega | assumption) ?_ | refine Br.t ?_ | refine Br.f ?_)
        refine fin true _ _ (by unfold keepB; rw [hl, ha]; simp) rfl rfl rfl rfl rfl
      repeat (first | refine Ob.mk (by first | rfl | omega | assumption) ?_ | refine Br.t ?_ | refine Br.f ?_ | refine vcc_sound _ _ _ tabOk (by exact rfl) ?_)
      refine RowAt.mk _ (hrow) ?_
      repeat (first | refine Ob.mk (by first | rfl | omega | assumption) ?_ | refine Br.t ?_ | refine Br.f ?_)
      refine fin ((lastW out).kind == 10) _ _ (by unfold keepB; rw [h6, hl, ha]; simp) rfl rfl rfl rfl rfl
    have out2 : ∀ (k' : Nat) (o : List Wd) env st, o = splitStep out p → env 3 = .h 0 k' 0 o.length → env 4 = .d (dPts (ps.take i)) → st.take 1 = [.row k' 94 2 (o.map encWd)] → ∃ x' : {x : Nat × Nat // x.1 ≤ ps.length}, x'.1.1 < i + 1 ∧ Sub ⟨Tryz.f85.ntmps, 0⟩ env st (ofL [(3, .h 0 x'.1.2 0 (splitRev (ps.drop x'.1.1)).length), (4, .d (dPts (ps.take x'.1.1)))]) [.row x'.1.2 94 2 ((splitRev (ps.drop x'.1.1)).map encWd)] := fun k' o env st ho h3 h4 hs =>
      ⟨⟨(i, k'), by omega⟩, Nat.lt_succ_self _, Sub.ofL _ _ (Nat.zero_le _) ⟨by rw [h3, ho, ← hstep], rfl, h4, rfl, trivial⟩ (by show st.take 1 = _; rw [hs, ho, ← hstep]) rfl⟩
    repeat (first | refine Ob.mk (by first | rfl | omega | assumption) ?_ | refine Br.t ?_ | refine Br.f ?_ | refine vcc_sound _ _ _ tabOk (by exact rfl) ?_)
    refine Br.mk (fun (hk : (keepB out w) = true) => ?_) (fun (hk : (keepB out w) = false) => ?_)
    · repeat (first | refine Ob.mk (by first | rfl | omega | assumption) ?_ | refine Br.t ?_ | refine Br.f ?_ | refine vcc_sound _ _ _ tabOk (by exact rfl) ?_)
      refine NewS.list ?_
      repeat (first | refine Ob.mk (by first | rfl | omega | assumption) ?_ | refine Br.t ?_ | refine Br.f ?_ | refine vcc_sound _ _ _ tabOk (by exact rfl) ?_)
      refine AppK.whole (by simp) ?_
      repeat (first | refine Ob.mk (by first | rfl | omega | assumption) ?_ | refine Br.t ?_ | refine Br.f ?_ | refine vcc_sound _ _ _ tabOk (by exact rfl) ?_)
      have hso : out ++ [w] = splitStep out p := by rw [hst, hk]; rfl
      exact ⟨rfl, out2 (k + 1) (out ++ [w]) _ _ hso (by show AV.h 0 (k + 1) 0 (out.length + 1) = _; rw [List.length_append]; rfl) rfl (by show [AO.row (k + 1) 94 2 (out.map encWd ++ [[dint w.kind, dstr w.text]])] = _; rw [List.map_append]; rfl)⟩
    · repeat (first | refine Ob.mk (by first | rfl | omega | assumption) ?_ | refine Br.t ?_ | refine Br.f ?_ | refine vcc_sound _ _ _ tabOk (by exact rfl) ?_)
      have hso : out = splitStep out p := by rw [hst, hk]; rfl
      exact ⟨rfl, out2 k out _ _ hso rfl rfl rfl⟩

end Go.Proofs.Nw.K
end
section
/- K24: regions whose order is open, and in which operations turn own things one behind the other: what turns nothing does the same at each stage. -/
open Go Go.RowKit
set_option linter.unusedVariables false
set_option linter.unusedSimpArgs false
namespace Go.Proofs.Nw.K

/-- the turning ones that are earlier stand ahead of this one -/
def turnAt (md : Region.Mode) (ops : List Oper) (tf : List Bool) (j : Nat) : Bool :=
  match tf.getD j false, ops[j]? with
  | true, some o => let S := downS md ops j ((o.after.toList.filter (Region.binds md)).map (·.on)); (List.range j).all fun i => !(tf.getD i false) || S.contains i
  | _, _ => true

section
variable {P : Program} {N : Fm} {ops : Array Oper} {md : Region.Mode} {tf : List Bool} {Ss : List (List AO)}

def Yt (P : Program) (N : Fm) (ops : Array Oper) (tf : List Bool) (Ss : List (List AO)) (i : Nat) (o : Oper) (v : AV) (env : Env) (j j' : Nat) : Prop :=
  match tf.getD i false with
  | true => j' = j + 1 ∧ ∃ s s', Ss[j]? = some s ∧ Ss[j + 1]? = some s' ∧ (∀ d, o.dst = some d → d < N.n) ∧ o.guard = none ∧ OpS P o.op (evalE env) s v s'
  | false => j' = j ∧ ∀ s ∈ Ss, EYields P N ops s o v env

def tOp (P : Program) (N : Fm) (ops : Array Oper) (tf : List Bool) (Ss : List (List AO)) (i : Nat) (K : Env → Nat → Prop) (env : Env) (j : Nat) : Prop :=
  match ops[i]? with
  | none => K env j
  | some o => ∃ v j', Yt P N ops tf Ss i o v env j j' ∧ K (updO env o.dst v) j'

def wpAnyT (P : Program) (N : Fm) (md : Region.Mode) (ops : Array Oper) (tf : List Bool) (Ss : List (List AO)) (K : Env → Nat → Prop) : Nat → Array Bool → Env → Nat → Prop
  | 0, listed, env, j => Region.ready md ops listed = [] ∧ K env j
  | fuel + 1, listed, env, j => (Region.ready md ops listed = [] → K env j) ∧ ∀ i ∈ Region.ready md ops listed, tOp P N ops tf Ss i (wpAnyT P N md ops tf Ss K fuel (listed.setIfInBounds i true)) env j

theorem evalE_other {env : Env} {o : Oper} {dst : Option Tmp} {u : AV} (h : ∀ d, dst = some d → d ∉ o.looksAt ops) : ∀ x ∈ o.op.operands, evalE (updO env dst u) x = evalE env x := fun x hx => by
  cases x with
  | tmp t =>
    refine updO_other fun d hd e => h d hd ?_
    subst e
    exact List.mem_append_left _ (List.mem_filterMap.2 ⟨.tmp d, by simpa using hx, rfl⟩)
  | _ => rfl

theorem Yt.keep {i : Nat} {o : Oper} {v : AV} {env : Env} {j j' : Nat} (hy : Yt P N ops tf Ss i o v env j j') {dst : Option Tmp} {u : AV} (h : ∀ d, dst = some d → d ∉ o.looksAt ops) : Yt P N ops tf Ss i o v (updO env dst u) j j' := by
  unfold Yt at *
  split at hy
  · obtain ⟨h1, s, s', h2, h3, h4, h5, h6⟩ := hy
    exact ⟨h1, s, s', h2, h3, h4, h5, h6.congr (evalE_other h)⟩
  · exact ⟨hy.1, fun s hs => (hy.2 s hs).keep h⟩
theorem Yt.drop {i : Nat} {o : Oper} {v : AV} {env : Env} {j j' : Nat} {dst : Option Tmp} {u : AV} (hy : Yt P N ops tf Ss i o v (updO env dst u) j j') (h : ∀ d, dst = some d → d ∉ o.looksAt ops) : Yt P N ops tf Ss i o v env j j' := by
  unfold Yt at *
  split at hy
  · obtain ⟨h1, s, s', h2, h3, h4, h5, h6⟩ := hy
    exact ⟨h1, s, s', h2, h3, h4, h5, h6.congr fun x hx => (evalE_other h x hx).symm⟩
  · exact ⟨hy.1, fun s hs => (hy.2 s hs).drop h⟩

theorem Yt.swap {i k : Nat} {oi ok : Oper} {v u : AV} {env : Env} {j0 j1 j2 : Nat} (hap : oi.apart ops ok = true) (hnt : ¬ (tf.getD i false = true ∧ tf.getD k false = true))
    (h0 : Yt P N ops tf Ss i oi v env j0 j1) (g0 : Yt P N ops tf Ss k ok u (updO env oi.dst v) j1 j2) : ∃ j1', Yt P N ops tf Ss k ok u env j0 j1' ∧ Yt P N ops tf Ss i oi v (updO env ok.dst u) j1' j2 := by
  obtain ⟨a1, a2, a3⟩ := Oper.apart_spec hap
  have g := g0.drop a1
  have h := h0.keep (u := u) a3
  clear g0 h0
  unfold Yt at *
  cases hi : tf.getD i false with
  | true =>
    cases hk : tf.getD k false with
    | true => exact absurd ⟨hi, hk⟩ hnt
    | false =>
      simp only [hi, hk] at *
      obtain ⟨rfl, s, s', h2⟩ := h
      obtain ⟨rfl, g⟩ := g
      exact ⟨j0, ⟨rfl, g⟩, rfl, s, s', h2⟩
  | false =>
    cases hk : tf.getD k false with
    | true =>
      simp only [hi, hk] at *
      obtain ⟨rfl, h⟩ := h
      obtain ⟨rfl, s, s', g2⟩ := g
      exact ⟨_, ⟨rfl, s, s', g2⟩, rfl, h⟩
    | false =>
      simp only [hi, hk] at *
      obtain ⟨rfl, h⟩ := h
      obtain ⟨rfl, g⟩ := g
      exact ⟨_, ⟨rfl, g⟩, rfl, h⟩

theorem not_both {l : List Oper} {listed : Array Bool} (hc : Closed md l listed) (ht : ∀ j, j < l.length → turnAt md l tf j = true) {i k : Nat} (hi : i ∈ Region.ready md l.toArray listed) (hk : k ∈ Region.ready md l.toArray listed) (hne : k ≠ i) :
    ¬ (tf.getD i false = true ∧ tf.getD k false = true) := by
  have key : ∀ a b, a ∈ Region.ready md l.toArray listed → b ∈ Region.ready md l.toArray listed → a < b → tf.getD a false = true → tf.getD b false = true → False := fun a b ha hb hab ta tb => by
    obtain ⟨h0, o, ho, hall⟩ := mem_ready.1 hb
    have ho' : l[b]? = some o := by simpa using ho
    have := ht b (List.getElem?_eq_some_iff.1 ho').1
    unfold turnAt at this
    simp only [tb, ho'] at this
    have := List.all_eq_true.1 this a (List.mem_range.2 hab)
    simp only [ta, Bool.not_true, Bool.false_or] at this
    have hm : listed.getD a false = true := by
      refine downS_sound hc b _ ?_ a (by simpa using this)
      intro x hx
      obtain ⟨e, he, rfl⟩ := List.mem_map.1 hx
      obtain ⟨he1, he2⟩ := List.mem_filter.1 he
      exact hall e (by simpa using he1) he2
    have := list_getD_unlisted (mem_ready.1 ha).1
    rw [this] at hm
    cases hm
  rintro ⟨ti, tk⟩
  rcases Nat.lt_or_gt_of_ne hne with h | h
  · exact key k i hk hi h tk ti
  · exact key i k hi hk h ti tk

theorem wpAnyT_first {l : List Oper} {K : Env → Nat → Prop} {i : Nat} {oi : Oper} (hi : l[i]? = some oi) (ht : ∀ j, j < l.length → turnAt md l tf j = true) :
    ∀ (fuel : Nat) (listed : Array Bool) (env : Env) (j : Nat), Closed md l listed →
      (∀ k ok, l.toArray[k]? = some ok → k ≠ i → listed.getD k true = false → (∀ e ∈ ok.after, Region.binds md e = true → e.on ≠ i) → oi.apart l.toArray ok = true) →
      i ∈ Region.ready md l.toArray listed → tOp P N l.toArray tf Ss i (wpAnyT P N md l.toArray tf Ss K fuel (listed.setIfInBounds i true)) env j → wpAnyT P N md l.toArray tf Ss K (fuel + 1) listed env j := by
  have hia : l.toArray[i]? = some oi := by simpa using hi
  intro fuel
  induction fuel with
  | zero =>
    intro listed env j _ _ hr H
    refine ⟨fun h => (by rw [h] at hr; cases hr), fun k hk => ?_⟩
    by_cases hki : k = i
    · subst hki; exact H
    · have := ready_mono hk hki
      unfold tOp at H
      simp only [hia] at H
      obtain ⟨v, j', _, H⟩ := H
      rw [H.1] at this
      cases this
  | succ fuel ih =>
    intro listed env j hc hfree hr H
    refine ⟨fun h => (by rw [h] at hr; cases hr), fun k hk => ?_⟩
    by_cases hki : k = i
    · subst hki; exact H
    · have hnb := not_both hc ht hr hk hki
      unfold tOp at H
      simp only [hia] at H
      obtain ⟨v, j1, hy, H2⟩ := H
      have h1 := H2.2 k (ready_mono hk hki)
      obtain ⟨hkun, ok, hok, hall⟩ := mem_ready.1 hk
      have hnot : ∀ e ∈ ok.after, Region.binds md e = true → e.on ≠ i := fun e he hb heq => by
        have h1 := hall e he hb
        have h0 := (mem_ready.1 hr).1
        rw [heq] at h1
        have := list_getD_unlisted h0
        rw [this] at h1
        cases h1
      have hap := hfree k ok hok hki hkun hnot
      unfold tOp at h1
      simp only [hok] at h1
      obtain ⟨u, j2, hyk, H3⟩ := h1
      obtain ⟨j1', hy1, hy2⟩ := Yt.swap hap hnb hy hyk
      have hfree' : ∀ k' ok', l.toArray[k']? = some ok' → k' ≠ i → (listed.setIfInBounds k true).getD k' true = false →
          (∀ e ∈ ok'.after, Region.binds md e = true → e.on ≠ i) → oi.apart l.toArray ok' = true := fun k' ok' hk' hki' hun hno => by
        refine hfree k' ok' hk' hki' ?_ hno
        by_cases hjk : k = k'
        · subst hjk; exact hkun
        · rw [getD_set_ne true hjk] at hun; exact hun
      unfold tOp
      simp only [hok]
      refine ⟨u, j1', hy1, ih (listed.setIfInBounds k true) _ _ (closed_set hc hk) hfree' (ready_mono hr (Ne.symm hki)) ?_⟩
      unfold tOp
      simp only [hia]
      refine ⟨v, j2, hy2, ?_⟩
      rw [← updO_comm env v u (Oper.apart_spec hap).2.1, Array.setIfInBounds_comm _ _ hki]
      exact H3

/-- the run in the order of the text -/
def WT (P : Program) (N : Fm) (ops : Array Oper) (tf : List Bool) (Ss : List (List AO)) (K : Env → Nat → Prop) : Nat → List Oper → Env → Nat → Prop
  | _, [], env, j => K env j
  | k, o :: rest, env, j => ∃ v j', Yt P N ops tf Ss k o v env j j' ∧ WT P N ops tf Ss K (k + 1) rest (updO env o.dst v) j'

theorem WT_mono {K K' : Env → Nat → Prop} (hk : ∀ e j, K e j → K' e j) : ∀ {l : List Oper} {k j : Nat} {env : Env}, WT P N ops tf Ss K k l env j → WT P N ops tf Ss K' k l env j
  | [], _, _, _, h => hk _ _ h
  | _ :: _, _, _, _, ⟨v, j', hy, h⟩ => ⟨v, j', hy, WT_mono hk h⟩

theorem wpAnyT_lex {l : List Oper} {K : Env → Nat → Prop} (ht : ∀ j, j < l.length → turnAt md l tf j = true) : ∀ (r : List Oper) (k : Nat) (listed : Array Bool) (env : Env) (j : Nat), (∀ j, r[j]? = l[k + j]?) → Closed md l listed →
    Region.lexFrom md l.toArray r.length k listed = true → WT P N l.toArray tf Ss K k r env j → wpAnyT P N md l.toArray tf Ss K r.length listed env j
  | [], _, _, _, _, _, _, hB, h => ⟨by simpa [Region.lexFrom] using hB, h⟩
  | o :: r, k, listed, env, j, hl, hc, hB, h => by
    have h0 : l[k]? = some o := by simpa using (hl 0).symm
    simp only [List.length_cons, Region.lexFrom, Bool.and_eq_true] at hB
    obtain ⟨⟨hr, hf⟩, hB'⟩ := hB
    obtain ⟨v, j', hy, hK⟩ := h
    have hr : k ∈ Region.ready md l.toArray listed := by simpa using hr
    refine wpAnyT_first h0 ht r.length listed env j hc (Region.free_spec (by simpa using h0) hf) hr ?_
    unfold tOp
    have : l.toArray[k]? = some o := by simpa using h0
    simp only [this]
    exact ⟨v, j', hy, wpAnyT_lex ht r (k + 1) _ _ _ (fun j => by have := hl (j + 1); simpa [Nat.add_assoc, Nat.add_comm 1 j] using this) (closed_set hc hr) hB' hK⟩

theorem wpOp_of_tOp {i : Nat} {K : Env → Nat → Prop} {K' : Act → World → Prop} {Q' : Exit → Act → World → Prop} {w0 : World} {σ0 : Sig} {I : Ini} {env : Env} {j : Nat} {s : List AO} {a : Act} {w : World} (hs : Ss[j]? = some s) (hr : Rel N w0 σ0 I env s a w)
    (h : ∀ env j s a w, Ss[j]? = some s → Rel N w0 σ0 I env s a w → K env j → K' a w) (hh : tOp P N ops tf Ss i K env j) : wpOp P ops Q' i K' a w := by
  unfold tOp at hh
  unfold wpOp
  split
  · rename_i h0; simp only [h0] at hh; exact h _ _ _ _ _ hs hr hh
  · rename_i o h0
    simp only [h0] at hh
    obtain ⟨v, j', hy, hK⟩ := hh
    unfold Yt at hy
    split at hy
    · obtain ⟨rfl, s1, s', h2, h3, h4, h5, h6⟩ := hy
      rw [hs] at h2
      cases h2
      have hw : Region.wanted o (yielded ops a.tmps) = true := by unfold Region.wanted; rw [h5]
      rw [hw]
      simp only [if_true]
      exact .inl (op_wp h6 h4 hr fun a w hr' => h _ _ _ _ _ h3 hr' hK)
    · obtain ⟨rfl, hy⟩ := hy
      obtain ⟨hd, hy⟩ := hy s (List.mem_of_getElem? hs)
      rcases hy with ⟨hg, ho⟩ | ⟨hg, rfl⟩
      · rw [guard_wanted hg hr]
        simp only [if_true]
        exact .inl (op_wp ho hd hr fun a w hr' => h _ _ _ _ _ hs hr' hK)
      · rw [guard_wanted hg hr]
        simp only [Bool.false_eq_true, if_false]
        obtain ⟨g1, g2, hI, σ, gh, hbase, hk0, he⟩ := hr
        exact h _ _ _ _ _ hs (rel_put g1 g2 hI hk0 hbase he o.dst hd (v := .tup []) ⟨[], rfl, by simp [RepVs]⟩) hK

theorem tOp_more {ops ops' : Array Oper} {i : Nat} {K : Env → Nat → Prop} {env : Env} {j : Nat} (hm : ∀ (j : Nat) (oj : Oper), ops[j]? = some oj → ops'[j]? = some oj) (hi : ops[i]? ≠ none) (h : tOp P N ops tf Ss i K env j) : tOp P N ops' tf Ss i K env j := by
  unfold tOp at *
  cases ho : ops[i]? with
  | none => exact absurd ho hi
  | some o =>
    rw [hm i o ho]
    simp only [ho] at h
    obtain ⟨v, j', h2, h3⟩ := h
    refine ⟨v, j', ?_, h3⟩
    unfold Yt at *
    split
    · rename_i ht; simp only [ht] at h2; exact h2
    · rename_i ht
      simp only [ht] at h2
      refine ⟨h2.1, fun s hs => ?_⟩
      obtain ⟨h1, h2⟩ := h2.2 s hs
      refine ⟨h1, ?_⟩
      rcases h2 with ⟨g, h2⟩ | ⟨g, h2⟩
      · exact .inl ⟨guardE_more hm g, h2⟩
      · exact .inr ⟨guardE_more hm g, h2⟩

theorem runT {l : List Oper} {m : Nat} {w0 : World} {σ0 : Sig} {I : Ini} {Q' : Exit → Act → World → Prop} {K : Env → Nat → Prop} (hm : m ≤ l.length)
    (hB : ∀ (f : Nat) (listed : Array Bool) (env : Env) (j : Nat) (s : List AO) (a : Act) (w : World), Ss[j]? = some s → l.length - m ≤ f → listed.size = l.length → Closed md l listed → (∀ i, i < m → listed.getD i false = true) → (∀ i, m ≤ i → i < l.length → listed.getD i true = false) →
      Rel N w0 σ0 I env s a w → K env j → wpAny P md l.toArray Q' f listed a w)
    (hback : ∀ j, j < l.length → backAt md l j = true) (hs : ∀ j, m ≤ j → j < l.length → soloAt md l j = true) :
    ∀ (f : Nat) (listed lA : Array Bool) (env : Env) (j : Nat) (s : List AO) (a : Act) (w : World), Ss[j]? = some s → listed.size = l.length → lA.size = m → (∀ i, i < m → listed[i]? = lA[i]?) → (∀ i, m ≤ i → i < l.length → listed.getD i true = false) → Closed md l listed →
      Rel N w0 σ0 I env s a w → wpAnyT P N md (l.take m).toArray tf Ss K f lA env j → wpAny P md l.toArray Q' (f + (l.length - m)) listed a w := by
  intro f
  induction f with
  | zero =>
    intro listed lA env j s a w hsj hsz hszA heq hu hc hrel h
    by_cases hall : ∃ i, i < m ∧ listed.getD i false = false
    · obtain ⟨i, h1, h2, h3⟩ := exists_least m hall
      exfalso
      have : i ∈ Region.ready md (l.take m).toArray lA := by
        refine mem_ready.2 ⟨?_, l[i]'(by omega), ?_, ?_⟩
        · have := heq i h1
          simp only [Array.getD_eq_getD_getElem?] at *
          rw [← this]
          have hi : i < listed.size := by omega
          simp only [Array.getElem?_eq_getElem hi, Option.getD_some] at *
          exact h2
        · have : (l.take m)[i]? = some (l[i]'(by omega)) := by rw [List.getElem?_take_of_lt h1]; exact List.getElem?_eq_getElem _
          simpa using this
        · intro e he hb
          have hlt : e.on < i := by
            have := hback i (by omega)
            unfold backAt at this
            simp only [List.getElem?_eq_getElem (show i < l.length by omega), List.all_eq_true, List.mem_filter, decide_eq_true_eq] at this
            exact this e ⟨by simpa using he, hb⟩
          have h4 := h3 e.on hlt
          simp only [Array.getD_eq_getD_getElem?] at *
          rw [← heq e.on (by omega)]
          simpa using h4
      rw [h.1] at this
      cases this
    · exact hB _ _ _ _ _ _ _ hsj (by omega) hsz hc (fun i hi => by
        cases hx : listed.getD i false with
        | true => rfl
        | false => exact absurd ⟨i, hi, hx⟩ hall) hu hrel h.2
  | succ f ih =>
    intro listed lA env j s a w hsj hsz hszA heq hu hc hrel h
    by_cases hall : ∃ i, i < m ∧ listed.getD i false = false
    · obtain ⟨i0, h1, h2, h3⟩ := exists_least m hall
      have hi0 : i0 ∈ Region.ready md l.toArray listed := by
        refine mem_ready.2 ⟨?_, l[i0]'(by omega), by simp, ?_⟩
        · have hi : i0 < listed.size := by omega
          simp only [Array.getD_eq_getD_getElem?, Array.getElem?_eq_getElem hi, Option.getD_some] at *
          exact h2
        · intro e he hb
          have hlt : e.on < i0 := by
            have := hback i0 (by omega)
            unfold backAt at this
            simp only [List.getElem?_eq_getElem (show i0 < l.length by omega), List.all_eq_true, List.mem_filter, decide_eq_true_eq] at this
            exact this e ⟨by simpa using he, hb⟩
          simpa using h3 e.on hlt
      rw [Nat.succ_add]
      refine ⟨fun h0 => (by rw [h0] at hi0; cases hi0), fun i hi => ?_⟩
      obtain ⟨hin, oi, hoi, hai⟩ := mem_ready.1 hi
      have hoi' : l[i]? = some oi := by simpa using hoi
      have hilt : i < l.length := (List.getElem?_eq_some_iff.1 hoi').1
      have him : i < m := by
        by_cases hge : m ≤ i
        · have := solo_all hc hoi' (hs i hge hilt) hai i0 (by omega)
          rw [h2] at this
          cases this
        · omega
      have htk : (l.take m)[i]? = some oi := by rw [List.getElem?_take_of_lt him]; exact hoi'
      have hiA : i ∈ Region.ready md (l.take m).toArray lA := by
        refine mem_ready.2 ⟨?_, oi, by simpa using htk, ?_⟩
        · simp only [Array.getD_eq_getD_getElem?] at *
          rw [← heq i him]; exact hin
        · intro e he hb
          have hlt : e.on < i := by
            have := hback i hilt
            unfold backAt at this
            simp only [hoi', List.all_eq_true, List.mem_filter, decide_eq_true_eq] at this
            exact this e ⟨by simpa using he, hb⟩
          have := hai e he hb
          simp only [Array.getD_eq_getD_getElem?] at *
          rw [← heq e.on (by omega)]; exact this
      have hE := tOp_more (ops' := l.toArray) (fun j oj hj => by
        have hj' : (l.take m)[j]? = some oj := by simpa using hj
        have hjm : j < (l.take m).length := (List.getElem?_eq_some_iff.1 hj').1
        rw [List.getElem?_take_of_lt (by rw [List.length_take] at hjm; omega)] at hj'
        simpa using hj') (by rw [List.getElem?_toArray, htk]; simp) (h.2 i hiA)
      refine wpOp_of_tOp hsj hrel (fun env' j' s' a' w' hsj' hrel' hK' => ?_) hE
      refine ih (listed.setIfInBounds i true) (lA.setIfInBounds i true) env' j' s' a' w' hsj' (by simpa using hsz) (by simpa using hszA) ?_ ?_ (closed_set hc hi) hrel' hK'
      · intro j hj
        simp only [Array.getElem?_setIfInBounds, heq j hj, hsz, hszA]
        by_cases hij : i = j
        · subst hij; simp [hilt, him]
        · simp [hij]
      · intro j hj1 hj2
        rw [getD_set_ne true (by omega)]
        exact hu j hj1 hj2
    · have hrA : Region.ready md (l.take m).toArray lA = [] := by
        refine List.eq_nil_iff_forall_not_mem.2 fun i hi => ?_
        obtain ⟨hx, o, ho, _⟩ := mem_ready.1 hi
        have ho' : (l.take m)[i]? = some o := by simpa using ho
        have him : i < m := by have := (List.getElem?_eq_some_iff.1 ho').1; rw [List.length_take] at this; omega
        refine hall ⟨i, him, ?_⟩
        have := list_getD_unlisted hx
        simp only [Array.getD_eq_getD_getElem?] at *
        rw [heq i him]; exact this
      exact hB _ _ _ _ _ _ _ hsj (by omega) hsz hc (fun i hi => by
        cases hx : listed.getD i false with
        | true => rfl
        | false => exact absurd ⟨i, hi, hx⟩ hall) hu hrel (h.1 hrA)

def stageB (N : Fm) (m : Nat) (tf : List Bool) (ops : Array Oper) : Bool :=
  splitB N m ops && (List.range m).all (turnAt .any (ops.toList.take m) tf)

theorem WP_draw3 {env : Env} {st : List AO} {Q : Post} {id : Nat} {l : List Oper} (m : Nat) (tf : List Bool) (Ss : List (List AO)) (hmx : P.follows .mixedOrders = true) (hB : stageB N m tf l.toArray = true) (h0 : Ss[0]? = some st)
    (h : WT P N (l.take m).toArray tf Ss (fun env j => ∀ s, Ss[j]? = some s → GQ P N l.toArray (l.drop m) env s (Q .normal)) 0 (l.take m) env 0) : WP P N (.region id l.toArray true) env st Q := by
  intro w0 σ0 I a w hr
  simp only [stageB, splitB, Bool.and_eq_true, decide_eq_true_eq, List.all_eq_true] at hB
  obtain ⟨⟨⟨⟨⟨hdst, hlex⟩, hm⟩, hback⟩, hsolo⟩, hturn⟩ := hB
  have hm' : m ≤ l.length := by simpa using hm
  have hlt : (l.take m).length = m := by rw [List.length_take]; omega
  have hbk : ∀ j, j < l.length → backAt .any l j = true := fun j hj => by simpa using hback j (by simpa using hj)
  have htn : ∀ j, j < (l.take m).length → turnAt .any (l.take m) tf j = true := fun j hj => by simpa using hturn j (by rw [hlt] at hj; simpa using hj)
  have hsl : ∀ j, m ≤ j → j < l.length → soloAt .any l j = true := fun j h1 h2 => by
    refine hsolo j ?_
    rw [List.mem_drop_iff_getElem]
    refine ⟨j - m, by simp; omega, ?_⟩
    simp only [List.getElem_range]
    omega
  simp only [Region.lexB, Bool.and_eq_true] at hlex
  have hr' : Rel N w0 σ0 I env st a { w with drawn := w.drawn + 1 } := by
    obtain ⟨h1, h2, hI, σ, gh, hb, hk, he⟩ := hr
    exact ⟨h1, h2, hI, σ, gh, hb.grown ⟨rfl, rfl, rfl, Nat.le_refl _, fun _ _ _ => rfl⟩, hk, he⟩
  refine wp_region_any hmx ?_
  have hcl : ∀ (l' : List Oper) (n : Nat), Closed .any l' (Array.replicate n false) := fun l' n i o ho hi => by
    simp only [Array.getD_eq_getD_getElem?, Array.getElem?_replicate] at hi
    split at hi <;> simp at hi
  have hA := wpAnyT_lex (P := P) (N := N) (Ss := Ss) (tf := tf) (K := fun env j => ∀ s, Ss[j]? = some s → GQ P N l.toArray (l.drop m) env s (Q .normal)) (md := .any) (l := l.take m) htn (l.take m) 0 (Array.replicate (l.take m).toArray.size false) env 0 (by simp) (hcl _ _) (by simpa using hlex.2) h
  have hR := runT (P := P) (md := .any) (l := l) (m := m) (Ss := Ss) (tf := tf) (w0 := w0) (σ0 := σ0) (I := I) (Q' := Lift N w0 σ0 I Q) (K := fun env j => ∀ s, Ss[j]? = some s → GQ P N l.toArray (l.drop m) env s (Q .normal)) hm'
    (fun f listed env j s a w hsj hf hsz hc hl hu hrel hK => runB (Q' := Lift N w0 σ0 I Q) (K := Q .normal) (fun env st a w hrel hq => ⟨env, st, hrel, hq⟩) hbk (l.drop m) m f listed env s a w (fun j => by rw [List.getElem?_drop]) (fun j h1 h2 => hsl j h1 h2) (by simpa using hf) hsz hc hl hu hm' hrel (hK s hsj))
    hbk hsl (l.take m).length (Array.replicate l.length false) (Array.replicate m false) env 0 st a _ h0 (by simp) (by simp) (fun i hi => by
      rw [Array.getElem?_replicate, Array.getElem?_replicate, if_pos (by omega), if_pos hi]) (fun i h1 h2 => by simp [Array.getD_eq_getD_getElem?, Array.getElem?_replicate, h2]) (hcl _ _) hr' (by simpa [hlt] using hA)
  rw [hlt, Nat.add_sub_cancel' hm'] at hR
  exact hR
end

section
variable (P : Program) (T : Tab) (N : Fm)
def alsoT (op : Op) (E : Operand → AV) (v : AV) : List (List AO) → Prop
  | [] => True
  | s :: r => (vcOp P T op E s fun v' s' => s' = s ∧ v' = v) ∧ alsoT op E v r

/-- operations in an open order; those with the mark turn own things, from stage to stage -/
def vcT (ops : List Oper) (Ss : List (List AO)) : List Bool → List Oper → Env → List (List AO) → (Env → List AO → Prop) → Prop
  | _, [], env, st :: _, K => K env st
  | true :: tf, o :: rest, env, st :: st2 :: r, K => match o.guard with
    | none => vcOp P T o.op (evalE env) st fun v st' => st' = st2 ∧ vcT ops Ss tf rest (updO env o.dst v) (st2 :: r) K
    | some _ => False
  | false :: tf, o :: rest, env, st :: r, K => match o.guard with
    | none => vcOp P T o.op (evalE env) st fun v st' => st' = st ∧ alsoT P T o.op (evalE env) v Ss ∧ vcT ops Ss tf rest (updO env o.dst v) (st :: r) K
    | some (j, want) => match ops[j]? with
      | some oj => match oj.dst with
        | some d => match env d with
          | .v (.one (.sc (.bool b))) => d < N.n ∧ (b = want → vcOp P T o.op (evalE env) st fun v st' => st' = st ∧ alsoT P T o.op (evalE env) v Ss ∧ vcT ops Ss tf rest (updO env o.dst v) (st :: r) K) ∧
            (b ≠ want → vcT ops Ss tf rest (updO env o.dst (.tup [])) (st :: r) K)
          | _ => False
        | none => False
      | none => False
  | _, _, _, _, _ => False
end

section
variable {P : Program} {T : Tab} {N : Fm} (hT : TabOk P T)
include hT

theorem alsoT_sound {op : Op} {E : Operand → AV} {v : AV} : ∀ {Ss : List (List AO)}, alsoT P T op E v Ss → ∀ s ∈ Ss, OpS P op E s v s
  | [], _, s, hs => by cases hs
  | s0 :: r, h, s, hs => by
    rcases List.mem_cons.1 hs with rfl | hs
    · obtain ⟨v', st', h1, rfl, rfl⟩ := vcOp_sound hT h.1
      exact h1
    · exact alsoT_sound h.2 s hs

theorem vcT_sound {ops : List Oper} {Ss : List (List AO)} {tf0 : List Bool} {K : Env → List AO → Prop} : ∀ {l : List Oper} {tf : List Bool} {k j : Nat} {env : Env} {r : List (List AO)}, dstOk N l → tf = tf0.drop k → r = Ss.drop j → vcT P T N ops Ss tf l env r K →
    WT P N ops.toArray tf0 Ss (fun env j => ∀ s, Ss[j]? = some s → K env s) k l env j
  | [], tf, k, j, env, r, _, htf, hr, h => by
    show ∀ s, Ss[j]? = some s → K env s
    intro s hs
    have h2 : r = s :: Ss.drop (j + 1) := by rw [hr]; exact (List.getElem?_eq_some_iff.1 hs).2 ▸ List.drop_eq_getElem_cons (List.getElem?_eq_some_iff.1 hs).1
    subst h2
    unfold vcT at h
    exact h
  | o :: rest, tf, k, j, env, r, hd, htf, hr, h => by
    have hd0 : ∀ d, o.dst = some d → d < N.n := hd o (by simp)
    have hdr : dstOk N rest := fun o' ho' => hd o' (by simp [ho'])
    cases tf with
    | nil => cases r <;> (unfold vcT at h; exact h.elim)
    | cons b tf =>
      have hb : tf0.getD k false = b := by
        have : tf0[k]? = some b := by
          have := congrArg (fun l => l[0]?) htf
          simpa using this.symm
        simp [List.getD, this]
      have htf' : tf = tf0.drop (k + 1) := by
        have := congrArg List.tail htf
        simpa [List.tail_drop] using this
      cases r with
      | nil => cases b <;> (unfold vcT at h; exact h.elim)
      | cons st r =>
        have hst : Ss[j]? = some st := by
          have := congrArg (fun l => l[0]?) hr
          simpa using this.symm
        have hr' : r = Ss.drop (j + 1) := by
          have := congrArg List.tail hr
          simpa [List.tail_drop] using this
        obtain ⟨dst, op, ty, pos, after, guard⟩ := o
        cases b with
        | true =>
          cases r with
          | nil => unfold vcT at h; exact h.elim
          | cons st2 r =>
            have hst2 : Ss[j + 1]? = some st2 := by
              have := congrArg (fun l => l[0]?) hr'
              simpa using this.symm
            unfold vcT at h
            split at h
            · rename_i hg
              simp only at hg
              subst hg
              obtain ⟨v, st', h1, rfl, h3⟩ := vcOp_sound hT h
              refine ⟨v, j + 1, ?_, vcT_sound hdr htf' hr' h3⟩
              unfold Yt
              rw [hb]
              exact ⟨rfl, _, _, hst, hst2, hd0, rfl, h1⟩
            · exact h.elim
        | false =>
          unfold vcT at h
          split at h
          · rename_i hg
            simp only at hg
            subst hg
            obtain ⟨v, st', h1, rfl, h2, h3⟩ := vcOp_sound hT h
            refine ⟨v, j, ?_, vcT_sound hdr htf' hr h3⟩
            unfold Yt
            rw [hb]
            exact ⟨rfl, fun s hs => ⟨hd0, .inl ⟨rfl, alsoT_sound hT h2 s hs⟩⟩⟩
          · rename_i jj want hg
            simp only at hg
            subst hg
            split at h
            · rename_i oj hj
              split at h
              · rename_i d hdj
                split at h
                · rename_i b hbb
                  obtain ⟨hdN, h1, h2⟩ := h
                  by_cases e : b = want
                  · obtain ⟨v, st', h3, rfl, h5, h6⟩ := vcOp_sound hT (h1 e)
                    refine ⟨v, j, ?_, vcT_sound hdr htf' hr h6⟩
                    unfold Yt
                    rw [hb]
                    exact ⟨rfl, fun s hs => ⟨hd0, .inl ⟨⟨oj, d, b, by simpa using hj, hdj, hdN, .inl ⟨hbb, by simp [e]⟩⟩, alsoT_sound hT h5 s hs⟩⟩⟩
                  · refine ⟨.tup [], j, ?_, vcT_sound hdr htf' hr (h2 e)⟩
                    unfold Yt
                    rw [hb]
                    exact ⟨rfl, fun s hs => ⟨hd0, .inr ⟨⟨oj, d, b, by simpa using hj, hdj, hdN, .inl ⟨hbb, by simp [e]⟩⟩, rfl⟩⟩⟩
                · exact h.elim
              · exact h.elim
            · exact h.elim

/-- an open region: of the first m operations the marked ones turn own things, from stage to stage; the others come after all ahead of them -/
theorem vc_draw3 {env : Env} {st : List AO} {Q : Post} {id : Nat} {ops : Array Oper} (m : Nat) (tf : List Bool) (Ss : List (List AO)) (hB : stageB N m tf ops = true)
    (h : vcT P T N (ops.toList.take m) (st :: Ss) tf (ops.toList.take m) env (st :: Ss) fun env st => vcL P T N ops.toList (ops.toList.drop m) env st (Q .normal)) : WP P N (.region id ops true) env st Q := by
  obtain ⟨l⟩ := ops
  have hd : dstOk N l := fun o ho d hdo => by
    simp only [stageB, splitB, Bool.and_eq_true, Array.all_eq_true_iff_forall_mem] at hB
    have := hB.1.1.1.1.1 o (by simpa using ho)
    rw [hdo] at this
    simpa using this
  refine WP_draw3 m tf (st :: Ss) hT.mixed hB rfl ?_
  have := vcT_sound (N := N) hT (tf0 := tf) (k := 0) (j := 0) (Ss := st :: Ss) (fun o ho => hd o (List.mem_of_mem_take ho)) rfl rfl h
  refine WT_mono (fun env j hk s hs => ?_) this
  exact vcG_sound hT (fun o ho => hd o (List.mem_of_mem_drop ho)) (hk s hs)
end
end Go.Proofs.Nw.K
end
section
/- K25: regions whose order is open: every order, one by one. -/
open Go Go.RowKit
set_option linter.unusedVariables false
set_option linter.unusedSimpArgs false
namespace Go.Proofs.Nw.K

/-- which ones may come next -/
def rdyL (l : List Oper) (listed : List Nat) : List Nat :=
  (List.range l.length).filter fun i => !listed.contains i && (match l[i]? with
    | some o => o.after.toList.all fun e => !Region.binds .any e || listed.contains e.on
    | none => false)

section
variable (P : Program) (T : Tab) (N : Fm)
def allX : List Nat → (Nat → Prop) → Prop
  | [], _ => True
  | i :: r, f => f i ∧ allX r f
def vcX (l : List Oper) : Nat → List Nat → Env → List AO → (Env → List AO → Prop) → Prop
  | 0, listed, env, st, K => rdyL l listed = [] ∧ K env st
  | n + 1, listed, env, st, K => match rdyL l listed with
    | [] => K env st
    | i :: r => allX (i :: r) fun i => match l[i]? with
      | some o => o.guard = none ∧ vcOp P T o.op (evalE env) st fun v st' => vcX l n (i :: listed) (updO env o.dst v) st' K
      | none => False
end

section
variable {P : Program} {T : Tab} {N : Fm} (hT : TabOk P T)
include hT
omit hT in
theorem allX_spec {l : List Nat} {f : Nat → Prop} (h : allX l f) : ∀ i ∈ l, f i := by
  induction l with
  | nil => intro i hi; cases hi
  | cons a r ih =>
    intro i hi
    rcases List.mem_cons.1 hi with rfl | hi
    · exact h.1
    · exact ih h.2 i hi

omit hT in
theorem rdy_spec {l : List Oper} {listed : Array Bool} {ls : List Nat} (hsz : listed.size = l.length) (hls : ∀ i, i < l.length → (listed[i]? = some true ↔ i ∈ ls)) (hlt : ∀ i ∈ ls, i < l.length) (i : Nat) : i ∈ Region.ready .any l.toArray listed ↔ i ∈ rdyL l ls := by
  unfold rdyL
  rw [mem_ready, List.mem_filter, List.mem_range]
  have key : ∀ j, listed.getD j false = true ↔ j ∈ ls := fun j => by
    by_cases hj : j < l.length
    · rw [← hls j hj]
      have : j < listed.size := by omega
      simp [Array.getD_eq_getD_getElem?, this]
    · have : ¬ j < listed.size := by omega
      simp only [Array.getD_eq_getD_getElem?, Array.getElem?_eq_none (Nat.le_of_not_lt this), Option.getD_none]
      exact ⟨fun h => (by cases h), fun h => absurd (hlt j h) hj⟩
  have key2 : ∀ j, j < l.length → (listed.getD j true = false ↔ ¬ j ∈ ls) := fun j hj => by
    rw [← key j]
    have : j < listed.size := by omega
    simp [Array.getD_eq_getD_getElem?, this]
  constructor
  · rintro ⟨h0, o, ho, hall⟩
    have ho' : l[i]? = some o := by simpa using ho
    have hil : i < l.length := (List.getElem?_eq_some_iff.1 ho').1
    refine ⟨hil, ?_⟩
    simp only [ho', Bool.and_eq_true, Bool.not_eq_true', List.all_eq_true, Bool.or_eq_true]
    refine ⟨by simpa using (key2 i hil).1 h0, fun e he => ?_⟩
    cases hb : Region.binds .any e with
    | false => exact .inl rfl
    | true => exact .inr (by simpa using (key e.on).1 (hall e (by simpa using he) hb))
  · rintro ⟨hil, h⟩
    have ho' : l[i]? = some l[i] := List.getElem?_eq_getElem hil
    simp only [ho', Bool.and_eq_true, Bool.not_eq_true', List.all_eq_true, Bool.or_eq_true] at h
    refine ⟨(key2 i hil).2 (by simpa using h.1), l[i], by simp, fun e he hb => ?_⟩
    rcases h.2 e (by simpa using he) with h2 | h2
    · rw [hb] at h2; cases h2
    · exact (key e.on).2 (by simpa using h2)

theorem runX {l : List Oper} (hd : dstOk N l) {w0 : World} {σ0 : Sig} {I : Ini} {Q' : Exit → Act → World → Prop} {K : Env → List AO → Prop}
    (hQ : ∀ env st a w, Rel N w0 σ0 I env st a w → K env st → Q' .normal a w) :
    ∀ (n : Nat) (ls : List Nat) (listed : Array Bool) (env : Env) (st : List AO) (a : Act) (w : World), listed.size = l.length → (∀ i, i < l.length → (listed[i]? = some true ↔ i ∈ ls)) → (∀ i ∈ ls, i < l.length) →
      Rel N w0 σ0 I env st a w → vcX P T l n ls env st K → wpAny P .any l.toArray Q' n listed a w
  | 0, ls, listed, env, st, a, w, hsz, hls, hlt, hr, h => by
    refine ⟨List.eq_nil_iff_forall_not_mem.2 fun i hi => ?_, hQ _ _ _ _ hr h.2⟩
    have := (rdy_spec hsz hls hlt i).1 hi
    rw [h.1] at this
    cases this
  | n + 1, ls, listed, env, st, a, w, hsz, hls, hlt, hr, h => by
    unfold vcX at h
    split at h
    · rename_i h0
      refine ⟨fun _ => hQ _ _ _ _ hr h, fun i hi => ?_⟩
      have := (rdy_spec hsz hls hlt i).1 hi
      rw [h0] at this
      cases this
    · rename_i i0 r h0
      refine ⟨fun hn => ?_, fun i hi => ?_⟩
      · have : i0 ∈ Region.ready .any l.toArray listed := (rdy_spec hsz hls hlt i0).2 (by rw [h0]; simp)
        rw [hn] at this
        cases this
      · have hi' := (rdy_spec hsz hls hlt i).1 hi
        rw [h0] at hi'
        have := allX_spec h i hi'
        split at this
        · rename_i o ho
          obtain ⟨hg, hv⟩ := this
          obtain ⟨v, st', h1, h2⟩ := vcOp_sound hT hv
          have hil : i < l.length := (List.getElem?_eq_some_iff.1 ho).1
          unfold wpOp
          have hoa : l.toArray[i]? = some o := by simpa using ho
          simp only [hoa]
          have hw : Region.wanted o (yielded l.toArray a.tmps) = true := by unfold Region.wanted; rw [hg]
          rw [hw]
          simp only [if_true]
          refine .inl (op_wp h1 (hd o (List.mem_of_getElem? ho)) hr fun a w hr' => runX hd hQ n (i :: ls) _ _ _ a w (by simpa using hsz) (fun j hj => ?_) (fun j hj => ?_) hr' h2)
          · rw [Array.getElem?_setIfInBounds]
            by_cases hij : i = j
            · subst hij; simp [hsz, hil]
            · rw [if_neg hij, hls j hj, List.mem_cons]
              exact ⟨fun h => .inr h, fun h => h.elim (fun e => absurd e.symm hij) id⟩
          · rcases List.mem_cons.1 hj with rfl | hj
            · exact hil
            · exact hlt j hj
        · exact this.elim

/-- an open region, every order of it -/
theorem vc_drawX {env : Env} {st : List AO} {Q : Post} {id : Nat} {ops : Array Oper} (hB : ops.all (fun o => match o.dst with | some d => decide (d < N.n) | none => true) = true)
    (h : vcX P T ops.toList ops.toList.length [] env st (Q .normal)) : WP P N (.region id ops true) env st Q := by
  obtain ⟨l⟩ := ops
  have hd : dstOk N l := fun o ho d hdo => by
    simp only [Array.all_eq_true_iff_forall_mem] at hB
    have := hB o (by simpa using ho)
    rw [hdo] at this
    simpa using this
  intro w0 σ0 I a w hr
  have hr' : Rel N w0 σ0 I env st a { w with drawn := w.drawn + 1 } := by
    obtain ⟨h1, h2, hI, σ, gh, hb, hk, he⟩ := hr
    exact ⟨h1, h2, hI, σ, gh, hb.grown ⟨rfl, rfl, rfl, Nat.le_refl _, fun _ _ _ => rfl⟩, hk, he⟩
  refine wp_region_any hT.mixed (runX hT hd (K := Q .normal) (fun env st a w hrel hq => ⟨env, st, hrel, hq⟩) l.length [] _ env st a _ (by simp) (fun i hi => ?_) (fun i hi => by cases hi) hr' h)
  simp [Array.getElem?_replicate]
end
end Go.Proofs.Nw.K
end
section
/- V3: open regions, without what goes without saying. -/
open Go Go.RowKit
set_option linter.unusedVariables false
set_option linter.unusedSimpArgs false
namespace Go.Proofs.Nw.K
section
variable {P : Program} {T : Tab} {N : Fm} (hT : TabOk P T)
include hT

theorem cG_sound {ops : List Oper} : ∀ {l : List Oper} {env : Env} {st : List AO} {K : Env → List AO → Prop}, dstOk N l → cL P T N ops l env st K → GQ P N ops.toArray l env st K
  | [], env, st, K, _, h => h
  | o :: rest, env, st, K, hd, h => by
    have hd0 : ∀ d, o.dst = some d → d < N.n := hd o (by simp)
    have hdr : dstOk N rest := fun o' ho' => hd o' (by simp [ho'])
    obtain ⟨dst, op, ty, pos, after, guard⟩ := o
    refine ⟨hd0, ?_⟩
    unfold cL at h
    split at h
    · rename_i hg
      simp only at hg
      subst hg
      exact .inl ⟨rfl, (cOp2_sound P T hT h).mono fun v st' h2 => cG_sound hdr h2⟩
    · rename_i j want hg
      simp only at hg
      subst hg
      split at h
      · rename_i oj hj
        split at h
        · rename_i d hdj
          split at h
          · rename_i b hb
            obtain ⟨hdN, h12⟩ := gd_out h
            obtain ⟨h1, h2⟩ := gBr_out h12
            have hdN : d < N.n := Nat.le_of_ble_eq_true hdN
            by_cases e : b = want
            · have h1 := h1 e
              rw [upd_eq (show env d = .bool want by rw [hb, e])] at h1
              obtain ⟨v, st', h3, h4⟩ := cOp_sound P T hT h1
              exact .inl ⟨⟨oj, d, b, by simpa using hj, hdj, hdN, .inl ⟨hb, by simp [e]⟩⟩, h3.n (cG_sound hdr h4)⟩
            · have h2 := h2 e
              rw [upd_eq (show env d = .bool (!want) by rw [hb]; cases b <;> cases want <;> simp_all)] at h2
              exact .inr ⟨⟨oj, d, b, by simpa using hj, hdj, hdN, .inl ⟨hb, by simp [e]⟩⟩, cG_sound hdr h2⟩
          · rename_i hb
            obtain ⟨hdN, h2⟩ := gd_out h
            exact .inr ⟨⟨oj, d, true, by simpa using hj, hdj, Nat.le_of_ble_eq_true hdN, .inr ⟨hb, rfl⟩⟩, cG_sound hdr h2⟩
          · exact h.elim
        · exact h.elim
      · exact h.elim

theorem cQ_sound2 {ops : List Oper} {st : List AO} : ∀ {l : List Oper} {env : Env} {K : Env → Prop}, dstOk N l → cQ P T N ops st l env K → WQ2 P N ops.toArray st K l env
  | [], env, K, hd, h => h
  | o :: rest, env, K, hd, h => by
    have hd0 : ∀ d, o.dst = some d → d < N.n := hd o (by simp)
    have hdr : dstOk N rest := fun o' ho' => hd o' (by simp [ho'])
    obtain ⟨dst, op, ty, pos, after, guard⟩ := o
    unfold cQ at h
    split at h
    · rename_i hg
      simp only at hg
      subst hg
      by_cases hmv : ∃ s, op = .move (.tmp s)
      · obtain ⟨s, rfl⟩ := hmv
        have h' := (force_out (show force (evalE env (.tmp s)) (fun v => Ob (st = st) (cQ P T N ops st rest (updO env dst v) K)) from h)).out
        refine ⟨env s, ⟨hd0, .inl ⟨rfl, ?_⟩⟩, fun s' hs' _ => ?_, cQ_sound2 hdr h'.2⟩
        · exact op_move (P := P) (E := evalE env) (st := st) (.tmp s)
        · simp only [Op.move.injEq, Operand.tmp.injEq] at hs'
          rw [hs']
      · obtain ⟨v, st', h1, h2, h3⟩ := cOp_sound P T hT h
        subst h2
        exact ⟨v, ⟨hd0, .inl ⟨rfl, h1⟩⟩, fun s hs _ => absurd ⟨s, hs⟩ hmv, cQ_sound2 hdr h3⟩
    · rename_i j want hg
      simp only at hg
      subst hg
      split at h
      · rename_i oj hj
        split at h
        · rename_i d hdj
          split at h
          · rename_i b hb
            obtain ⟨hdN, h12⟩ := gd_out h
            obtain ⟨h1, h2⟩ := gBr_out h12
            have hdN : d < N.n := Nat.le_of_ble_eq_true hdN
            by_cases e : b = want
            · have h1 := h1 e
              rw [upd_eq (show env d = .bool want by rw [hb, e])] at h1
              obtain ⟨v, st', h3, h4, h5⟩ := cOp_sound P T hT h1
              subst h4
              exact ⟨v, ⟨hd0, .inl ⟨⟨oj, d, b, by simpa using hj, hdj, hdN, .inl ⟨hb, by simp [e]⟩⟩, h3⟩⟩, fun s _ hg => (by cases hg), cQ_sound2 hdr h5⟩
            · have h2 := h2 e
              rw [upd_eq (show env d = .bool (!want) by rw [hb]; cases b <;> cases want <;> simp_all)] at h2
              exact ⟨.tup [], ⟨hd0, .inr ⟨⟨oj, d, b, by simpa using hj, hdj, hdN, .inl ⟨hb, by simp [e]⟩⟩, rfl⟩⟩, fun s _ hg => (by cases hg), cQ_sound2 hdr h2⟩
          · rename_i hb
            obtain ⟨hdN, h2⟩ := gd_out h
            exact ⟨.tup [], ⟨hd0, .inr ⟨⟨oj, d, true, by simpa using hj, hdj, Nat.le_of_ble_eq_true hdN, .inr ⟨hb, rfl⟩⟩, rfl⟩⟩, fun s _ hg => (by cases hg), cQ_sound2 hdr h2⟩
          · exact h.elim
        · exact h.elim
      · exact h.elim

/-- any order, nothing of one's own turned -/
theorem cdraw1 {env : Env} {st : List AO} {Q : Post} {id : Nat} {ops : Array Oper} (hB : splitB N ops.size ops = true)
    (h : cQ P T N ops.toList st ops.toList env fun env => Q .normal env st) : WP P N (.region id ops true) env st Q := by
  obtain ⟨l⟩ := ops
  have hd : dstOk N l := fun o ho d hdo => by
    simp only [splitB, Bool.and_eq_true, Array.all_eq_true_iff_forall_mem] at hB
    have := hB.1.1.1.1 o (by simpa using ho)
    rw [hdo] at this
    simpa using this
  refine WP_draw hT.mixed ?_ (cQ_sound P T N hT hd h)
  simp only [splitB, Bool.and_eq_true] at hB
  have := hB.1.1.1.2
  simpa using this

/-- an open region: the first m operations turn nothing; the others come after all ahead of them -/
theorem cdraw2 {env : Env} {st : List AO} {Q : Post} {id : Nat} {ops : Array Oper} (m : Nat) (hB : splitB N m ops = true)
    (h : cQ P T N (ops.toList.take m) st (ops.toList.take m) env fun env => cL P T N ops.toList (ops.toList.drop m) env st (Q .normal)) : WP P N (.region id ops true) env st Q := by
  obtain ⟨l⟩ := ops
  have hd : dstOk N l := fun o ho d hdo => by
    simp only [splitB, Bool.and_eq_true, Array.all_eq_true_iff_forall_mem] at hB
    have := hB.1.1.1.1 o (by simpa using ho)
    rw [hdo] at this
    simpa using this
  refine WP_draw2 m hT.mixed hB ?_
  have := cQ_sound P T N hT (fun o ho => hd o (List.mem_of_mem_take ho)) h
  refine WQ_mono (fun env hk => ?_) this
  exact cG_sound hT (fun o ho => hd o (List.mem_of_mem_drop ho)) hk

theorem cdraw4 {env : Env} {st : List AO} {Q : Post} {id : Nat} {ops : Array Oper} (m : Nat) (M : List Nat) (hB : earlyB N m M ops = true)
    (h : cQ P T N (ops.toList.take m) st (ops.toList.take m) env fun env => cL P T N ops.toList (ops.toList.drop m) env st (Q .normal)) : WP P N (.region id ops true) env st Q := by
  obtain ⟨l⟩ := ops
  have hd : dstOk N l := fun o ho d hdo => by
    simp only [earlyB, Bool.and_eq_true, Array.all_eq_true_iff_forall_mem] at hB
    have := hB.1.1.1.1 o (by simpa using ho)
    rw [hdo] at this
    simpa using this
  refine WP_draw4 m M hT.mixed hB ?_
  have h2 := cQ_sound2 hT (fun o ho => hd o (List.mem_of_mem_take ho)) h
  exact WQ2_mono (fun e he => cG_sound hT (fun o ho => hd o (List.mem_of_mem_drop ho)) he) h2
omit hT in
theorem unused_ (P : Program) : True := trivial
end

/-- an operation that does the same whatever own things there are -/
inductive PuK (P : Program) (T : Tab) (op : Op) (E : Operand → AV) (K : AV → Prop) : Prop
  | mk (w : AV) (h : ∀ st, cOp P T op E st fun v st' => v = w ∧ st' = st) (k : K w) : PuK P T op E K

section
variable (P : Program) (T : Tab) (N : Fm)
def cT (ops : List Oper) : List Bool → List Oper → Env → List (List AO) → (Env → List AO → Prop) → Prop
  | _, [], env, st :: _, K => K env st
  | true :: tf, o :: rest, env, st :: st2 :: r, K => match o.guard with
    | none => cOp P T o.op (evalE env) st fun v st' => Ob (st' = st2) (cT ops tf rest (updO env o.dst v) (st2 :: r) K)
    | some _ => False
  | false :: tf, o :: rest, env, st :: r, K => match o.guard with
    | none => PuK P T o.op (evalE env) fun v => cT ops tf rest (updO env o.dst v) (st :: r) K
    | some (j, want) => match ops[j]? with
      | some oj => match oj.dst with
        | some d => match env d with
          | .v (.one (.sc (.bool b))) => gd (Nat.blt d N.n) (gBr want b (PuK P T o.op (evalE (upd env d (.bool want))) fun v => cT ops tf rest (updO (upd env d (.bool want)) o.dst v) (st :: r) K)
              (cT ops tf rest (updO (upd env d (.bool (!want))) o.dst (.tup [])) (st :: r) K))
          | _ => False
        | none => False
      | none => False
  | _, _, _, _, _ => False
end

section
variable {P : Program} {T : Tab} {N : Fm} (hT : TabOk P T)
include hT
theorem PuK.out {op : Op} {E : Operand → AV} {K : AV → Prop} (h : PuK P T op E K) : ∃ w, (∀ st, OpS P op E st w st) ∧ K w := by
  obtain ⟨w, h, k⟩ := h
  refine ⟨w, fun st => ?_, k⟩
  obtain ⟨v, st', h1, rfl, rfl⟩ := cOp_sound P T hT (h st)
  exact h1

theorem cT_sound {ops : List Oper} {Ss : List (List AO)} {tf0 : List Bool} {K : Env → List AO → Prop} : ∀ {l : List Oper} {tf : List Bool} {k j : Nat} {env : Env} {r : List (List AO)}, dstOk N l → tf = tf0.drop k → r = Ss.drop j → cT P T N ops tf l env r K →
    WT P N ops.toArray tf0 Ss (fun env j => ∀ s, Ss[j]? = some s → K env s) k l env j
  | [], tf, k, j, env, r, _, htf, hr, h => by
    show ∀ s, Ss[j]? = some s → K env s
    intro s hs
    have h2 : r = s :: Ss.drop (j + 1) := by rw [hr]; exact (List.getElem?_eq_some_iff.1 hs).2 ▸ List.drop_eq_getElem_cons (List.getElem?_eq_some_iff.1 hs).1
    subst h2
    unfold cT at h
    exact h
  | o :: rest, tf, k, j, env, r, hd, htf, hr, h => by
    have hd0 : ∀ d, o.dst = some d → d < N.n := hd o (by simp)
    have hdr : dstOk N rest := fun o' ho' => hd o' (by simp [ho'])
    cases tf with
    | nil => cases r <;> (unfold cT at h; exact h.elim)
    | cons b tf =>
      have hb : tf0.getD k false = b := by
        have : tf0[k]? = some b := by
          have := congrArg (fun l => l[0]?) htf
          simpa using this.symm
        simp [List.getD, this]
      have htf' : tf = tf0.drop (k + 1) := by
        have := congrArg List.tail htf
        simpa [List.tail_drop] using this
      cases r with
      | nil => cases b <;> (unfold cT at h; exact h.elim)
      | cons st r =>
        have hst : Ss[j]? = some st := by
          have := congrArg (fun l => l[0]?) hr
          simpa using this.symm
        have hr' : r = Ss.drop (j + 1) := by
          have := congrArg List.tail hr
          simpa [List.tail_drop] using this
        obtain ⟨dst, op, ty, pos, after, guard⟩ := o
        cases b with
        | true =>
          cases r with
          | nil => unfold cT at h; exact h.elim
          | cons st2 r =>
            have hst2 : Ss[j + 1]? = some st2 := by
              have := congrArg (fun l => l[0]?) hr'
              simpa using this.symm
            unfold cT at h
            split at h
            · rename_i hg
              simp only at hg
              subst hg
              obtain ⟨v, st', h1, h3⟩ := cOp_sound P T hT h
              obtain ⟨rfl, h3⟩ := h3
              refine ⟨v, j + 1, ?_, cT_sound hdr htf' hr' h3⟩
              unfold Yt
              rw [hb]
              exact ⟨rfl, _, _, hst, hst2, hd0, rfl, h1⟩
            · exact h.elim
        | false =>
          unfold cT at h
          split at h
          · rename_i hg
            simp only at hg
            subst hg
            obtain ⟨v, h1, h3⟩ := PuK.out hT h
            refine ⟨v, j, ?_, cT_sound hdr htf' hr h3⟩
            unfold Yt
            rw [hb]
            exact ⟨rfl, fun s hs => ⟨hd0, .inl ⟨rfl, h1 s⟩⟩⟩
          · rename_i jj want hg
            simp only at hg
            subst hg
            split at h
            · rename_i oj hj
              split at h
              · rename_i d hdj
                split at h
                · rename_i b hbb
                  obtain ⟨hdN, h12⟩ := gd_out h
                  obtain ⟨h1, h2⟩ := gBr_out h12
                  have hdN : d < N.n := Nat.le_of_ble_eq_true hdN
                  by_cases e : b = want
                  · have h1 := h1 e
                    rw [upd_eq (show env d = .bool want by rw [hbb, e])] at h1
                    obtain ⟨v, h3, h6⟩ := PuK.out hT h1
                    refine ⟨v, j, ?_, cT_sound hdr htf' hr h6⟩
                    unfold Yt
                    rw [hb]
                    exact ⟨rfl, fun s hs => ⟨hd0, .inl ⟨⟨oj, d, b, by simpa using hj, hdj, hdN, .inl ⟨hbb, by simp [e]⟩⟩, h3 s⟩⟩⟩
                  · have h2 := h2 e
                    rw [upd_eq (show env d = .bool (!want) by rw [hbb]; cases b <;> cases want <;> simp_all)] at h2
                    refine ⟨.tup [], j, ?_, cT_sound hdr htf' hr h2⟩
                    unfold Yt
                    rw [hb]
                    exact ⟨rfl, fun s hs => ⟨hd0, .inr ⟨⟨oj, d, b, by simpa using hj, hdj, hdN, .inl ⟨hbb, by simp [e]⟩⟩, rfl⟩⟩⟩
                · exact h.elim
              · exact h.elim
            · exact h.elim

/-- an open region: of the first m operations the marked ones turn own things, from stage to stage; the others come after all ahead of them -/
theorem cdraw3 {env : Env} {st : List AO} {Q : Post} {id : Nat} {ops : Array Oper} (m : Nat) (tf : List Bool) (Ss : List (List AO)) (hB : stageB N m tf ops = true)
    (h : cT P T N (ops.toList.take m) tf (ops.toList.take m) env (st :: Ss) fun env st => cL P T N ops.toList (ops.toList.drop m) env st (Q .normal)) : WP P N (.region id ops true) env st Q := by
  obtain ⟨l⟩ := ops
  have hd : dstOk N l := fun o ho d hdo => by
    simp only [stageB, splitB, Bool.and_eq_true, Array.all_eq_true_iff_forall_mem] at hB
    have := hB.1.1.1.1.1 o (by simpa using ho)
    rw [hdo] at this
    simpa using this
  refine WP_draw3 m tf (st :: Ss) hT.mixed hB rfl ?_
  have h2 := cT_sound (Ss := st :: Ss) (tf0 := tf) (k := 0) (j := 0) hT (fun o ho => hd o (List.mem_of_mem_take ho)) rfl rfl h
  exact WT_mono (fun env j hk s hs => cG_sound hT (fun o ho => hd o (List.mem_of_mem_drop ho)) (hk s hs)) h2
end
end Go.Proofs.Nw.K
end
section
/- QM1: contracts proved by hand, as functions that may have no answer. -/
open Go Go.RowKit Go.Proofs
set_option linter.unusedVariables false
namespace Go.Proofs.Nw.K
def g_words_Split (n : Nat) (v : Str) : Option (List Wd) := chk (v.size ≤ 4194303) <| some (splitOf v)
theorem g_words_Split.ok (n : Nat) (v : Str) (r : List Wd) (h : g_words_Split n v = some r) : Impl Tryz.prog 85 [.one (dstr v)] [.one (.tl Wd 2 encWd zWd r)] := by
  obtain ⟨h1, h⟩ := chk_some h
  obtain rfl := Option.some.inj h
  exact Split_impl v h1
def g_order_Words (n : Nat) (a b : List Wd) : Option Int := chk (a.length ≤ 4194304 ∧ b.length ≤ 4194304 ∧ (∀ w ∈ a, w.text.size ≤ maxLen) ∧ (∀ w ∈ b, w.text.size ≤ maxLen)) <| some (wordsCmp a b)
theorem g_order_Words.ok (n : Nat) (a b : List Wd) (r : Int) (h : g_order_Words n a b = some r) : Impl Tryz.prog 84 [.one (.tl Wd 2 encWd zWd a), .one (.tl Wd 2 encWd zWd b)] [.one (dint r)] := by
  obtain ⟨⟨h1, h2, h3, h4⟩, h⟩ := chk_some h
  obtain rfl := Option.some.inj h
  exact Words_impl a b h1 h2 h3 h4
end Go.Proofs.Nw.K
end
