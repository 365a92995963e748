/- Bundle 7: NwQ7, NwV1, NwV2, NwQ8. -/
import Derived.Test.YtblenipidihemaaDoorNwA6
section
/- Q7: words turned round. -/
open Go Go.RowKit Go.Proofs
set_option linter.unusedVariables false
set_option linter.unusedSimpArgs false
namespace Go.Proofs.Nw.K

def MidR (xs : List Wd) (i : Nat) (ys : List Wd) : Prop := ys.length = xs.length ∧ ∀ t, t < xs.length → ys[t]? = if t < i ∨ xs.length - i ≤ t then xs[xs.length - 1 - t]? else xs[t]?

theorem MidR.zero (xs : List Wd) : MidR xs 0 xs := ⟨rfl, fun t ht => by rw [if_neg (by omega)]⟩
theorem MidR.done {xs ys : List Wd} {i : Nat} (h : MidR xs i ys) (hi : xs.length ≤ 2 * i + 1) : ys = xs.reverse := by
  apply List.ext_getElem?
  intro t
  by_cases ht : t < xs.length
  · rw [h.2 t ht, List.getElem?_reverse ht]
    split
    · rfl
    · congr 1; omega
  · rw [List.getElem?_eq_none (by rw [h.1]; omega), List.getElem?_eq_none (by simp; omega)]
theorem MidR.step {xs ys : List Wd} {i j : Nat} (h : MidR xs i ys) (hj : j = xs.length - 1 - i) (hij : i < j) (a b : Wd) (ha : ys[j]? = some a) (hb : ys[i]? = some b) : MidR xs (i + 1) ((ys.set i a).set j b) := by
  refine ⟨by simp [h.1], fun t ht => ?_⟩
  have hjx : j < xs.length := by omega
  rw [h.2 j hjx, if_neg (by omega)] at ha
  rw [h.2 i (by omega), if_neg (by omega)] at hb
  rw [List.getElem?_set, List.getElem?_set]
  simp only [List.length_set, h.1]
  by_cases e1 : j = t
  · subst e1
    rw [if_pos rfl, if_pos hjx, if_pos (by omega)]
    rw [← hb]; congr 1; try omega
  · rw [if_neg e1]
    by_cases e2 : i = t
    · subst e2
      rw [if_pos rfl, if_pos (by omega), if_pos (by omega)]
      rw [← ha]; congr 1; try omega
    · rw [if_neg e2, h.2 t ht]
      by_cases c : t < i ∨ xs.length - i ≤ t
      · rw [if_pos c, if_pos (by omega)]
      · rw [if_neg c, if_neg (by omega)]

theorem map_set {ys : List Wd} {i : Nat} {x : List D} {w : Wd} (hx : x = encWd w) : (ys.map encWd).set i x = (ys.set i w).map encWd := by
  subst hx
  rw [List.map_set]

theorem reverse_eff (k : Nat) (xs : List Wd) (hn : xs.length ≤ 4194304) : Eff Tryd.prog 56 [.h 0 k 0 xs.length] [.row k 68 2 (xs.map encWd)] [] [.row k 68 2 (xs.reverse.map encWd)] := by
  refine eff_vc Tryd.func56 rfl rfl (by exact Nat.le_of_ble_eq_true rfl) rfl (vc_sound tabOk (by kernel_rfl) ?_)
  refine And.intro rfl ?_
  refine And.intro rfl (And.intro ⟨by show (-9223372036854775808 : Int) ≤ (xs.length : Int) - 1; omega, by show (xs.length : Int) - 1 ≤ _; omega⟩ ?_)
  refine WP_loop (α := {p : Nat × List Wd // MidR xs p.1 p.2 ∧ 2 * p.1 ≤ xs.length + 1}) (fun p => ofL [(0, .h 0 k 0 xs.length), (2, .int (p.1.1 : Int)), (3, .int ((xs.length : Int) - 1 - (p.1.1 : Int)))]) (fun p => [.row k 68 2 (p.1.2.map encWd)]) (fun p => xs.length + 1 - 2 * p.1.1) ⟨(0, xs), MidR.zero xs, by show 2 * 0 ≤ _; omega⟩ ?_ ?_
  · refine Sub.ofL _ _ (Nat.le_refl _) ⟨rfl, rfl, rfl, rfl, ?_, rfl, trivial⟩ rfl rfl
    show AV.int ((xs.length : Int) - 1) = AV.int ((xs.length : Int) - 1 - ((0 : Nat) : Int))
    rw [show (xs.length : Int) - 1 - ((0 : Nat) : Int) = (xs.length : Int) - 1 by omega]
  rintro ⟨⟨i, ys⟩, hmid, hi2⟩
  have hmid : MidR xs i ys := hmid
  have hi2 : 2 * i ≤ xs.length + 1 := hi2
  refine WP_seq (vc_sound tabOk (by kernel_rfl) ?_)
  refine And.intro rfl ?_
  refine And.intro (fun h => ?_) (fun h => ?_)
  rotate_left
  · have h : decide ((i : Int) < (xs.length : Int) - 1 - (i : Int)) = false := h
    have h2 := of_decide_eq_false h
    have hd := hmid.done (by omega)
    refine And.intro ?_ (And.intro rfl (Exists.intro [] (And.intro rfl trivial)))
    show [AO.row k 68 2 (ys.map encWd)] = _
    rw [hd]
  have h : decide ((i : Int) < (xs.length : Int) - 1 - (i : Int)) = true := h
  have hlt := of_decide_eq_true h
  obtain ⟨j, hj⟩ : ∃ j : Nat, (xs.length : Int) - 1 - (i : Int) = (j : Int) := ⟨xs.length - 1 - i, by omega⟩
  have hij : i < j := by omega
  have hjn : j = xs.length - 1 - i := by omega
  have hyl : ys.length = xs.length := hmid.1
  have hjy : j < ys.length := by omega
  have hiy : i < ys.length := by omega
  have ea : ys[j]? = some ys[j] := List.getElem?_eq_getElem hjy
  have eb : ys[i]? = some ys[i] := List.getElem?_eq_getElem hiy
  have hstep := hmid.step hjn hij _ _ ea eb
  generalize ys[j] = wa at *
  generalize ys[i] = wb at *
  have htj : 0 + ((xs.length : Int) - 1 - (i : Int)).toNat = j := by omega
  have hti : 0 + ((i : Int)).toNat = i := by omega
  have ra : (ys.map encWd)[0 + ((xs.length : Int) - 1 - (i : Int)).toNat]? = some (encWd wa) := by rw [htj, List.getElem?_map, ea]; rfl
  have rb : (ys.map encWd)[0 + ((i : Int)).toNat]? = some (encWd wb) := by rw [hti, List.getElem?_map, eb]; rfl
  refine WP_seq (WP_block (vc_draw4 tabOk 12 [2, 3] (by kernel_rfl) ?_))
  refine And.intro rfl ?_
  refine And.intro rfl ?_
  refine And.intro rfl ?_
  refine And.intro rfl ?_
  refine And.intro rfl ?_
  refine And.intro rfl ?_
  refine And.intro rfl (And.intro rfl (And.intro (by show (0 : Int) ≤ (xs.length : Int) - 1 - (i : Int); omega) (And.intro (by show (xs.length : Int) - 1 - (i : Int) < (xs.length : Int); omega) (And.intro rfl ?_))))
  refine And.intro rfl (Exists.intro _ (And.intro ra (And.intro (Nat.le_of_ble_eq_true rfl) (And.intro rfl ?_))))
  refine And.intro rfl ?_
  refine And.intro rfl ?_
  refine And.intro rfl (And.intro rfl (And.intro (Int.natCast_nonneg _) (And.intro (by show (i : Int) < (xs.length : Int); omega) (And.intro rfl ?_))))
  refine And.intro rfl (Exists.intro _ (And.intro rb (And.intro (Nat.le_of_ble_eq_true rfl) (And.intro rfl ?_))))
  refine And.intro rfl (And.intro rfl (And.intro (Int.natCast_nonneg _) (And.intro (by show (i : Int) < (xs.length : Int); omega) ?_)))
  refine And.intro rfl (Exists.intro _ (And.intro rb (And.intro rfl (And.intro (Nat.le_of_ble_eq_true rfl) ?_))))
  refine And.intro rfl (And.intro rfl (And.intro (by show (0 : Int) ≤ (xs.length : Int) - 1 - (i : Int); omega) (And.intro (by show (xs.length : Int) - 1 - (i : Int) < (xs.length : Int); omega) ?_)))
  have rc : ((ys.set i wa).map encWd)[0 + ((xs.length : Int) - 1 - (i : Int)).toNat]? = some (encWd wa) := by
    rw [htj, List.getElem?_map, List.getElem?_set_ne (by omega), ea]; rfl
  have e1 : (ys.map encWd).set (0 + ((i : Int)).toNat) (encWd wa) = (ys.set i wa).map encWd := by rw [hti, map_set rfl]
  refine And.intro rfl (Exists.intro (encWd wa) (And.intro (by rw [← rc, ← e1]; rfl) (And.intro rfl (And.intro (Nat.le_of_ble_eq_true rfl) ?_))))
  refine vc_sound tabOk (by kernel_rfl) ?_
  refine And.intro rfl (And.intro ⟨by omega, by show (i : Int) + 1 ≤ _; omega⟩ ?_)
  refine And.intro rfl (And.intro ⟨by show (-9223372036854775808 : Int) ≤ (xs.length : Int) - 1 - (i : Int) - 1; omega, by show (xs.length : Int) - 1 - (i : Int) - 1 ≤ _; omega⟩ ?_)
  refine ⟨⟨(i + 1, (ys.set i wa).set j wb), hstep, by show 2 * (i + 1) ≤ xs.length + 1; omega⟩, by show xs.length + 1 - 2 * (i + 1) < xs.length + 1 - 2 * i; omega, Sub.ofL _ _ (Nat.le_refl _) ⟨rfl, rfl, rfl, rfl, ?_, rfl, trivial⟩ ?_ rfl⟩
  · show AV.int ((xs.length : Int) - 1 - (i : Int) - 1) = AV.int ((xs.length : Int) - 1 - ((i + 1 : Nat) : Int))
    rw [show (xs.length : Int) - 1 - ((i + 1 : Nat) : Int) = (xs.length : Int) - 1 - (i : Int) - 1 by omega]
  · show [AO.row k 68 2 (((ys.map encWd).set (0 + ((i : Int)).toNat) (encWd wa)).set (0 + ((xs.length : Int) - 1 - (i : Int)).toNat) (encWd wb))] = [AO.row k 68 2 (((ys.set i wa).set j wb).map encWd)]
    rw [e1, htj, map_set rfl]
end Go.Proofs.Nw.K
end
section
/- V1: what is to be shown of code, without what goes without saying: 'vcc'. -/
open Go Go.RowKit
set_option linter.unusedVariables false
set_option linter.unusedSimpArgs false
namespace Go.Proofs.Nw.K

/-- one thing to be shown, and on -/
inductive Ob (p K : Prop) : Prop | mk (h : p) (k : K) : Ob p K
/-- two ways -/
inductive Br (b : Bool) (K L : Prop) : Prop | mk (h : b = true → K) (k : b = false → L) : Br b K L
theorem Br.t {K L : Prop} (h : K) : Br true K L := .mk (fun _ => h) (fun e => by cases e)
theorem Br.f {K L : Prop} (h : L) : Br false K L := .mk (fun e => by cases e) (fun _ => h)
theorem Br.yes {b : Bool} {K L : Prop} (e : b = true) (h : K) : Br b K L := by subst e; exact Br.t h
theorem Br.no {b : Bool} {K L : Prop} (e : b = false) (h : L) : Br b K L := by subst e; exact Br.f h
def gd (b : Bool) (K : Prop) : Prop := match b with | true => K | false => False
theorem gd_out {b : Bool} {K : Prop} (h : gd b K) : b = true ∧ K := by cases b with | true => exact ⟨rfl, h⟩ | false => exact h.elim
theorem Ob.out {p K : Prop} (h : Ob p K) : p ∧ K := ⟨h.1, h.2⟩

def ikN : IntKind → Nat | .i8 => 0 | .i16 => 1 | .i32 => 2 | .i64 => 3 | .u8 => 4 | .u16 => 5 | .u32 => 6 | .u64 => 7
def ikb (a b : IntKind) : Bool := Nat.beq (ikN a) (ikN b)
theorem ikb_eq {a b : IntKind} (h : ikb a b = true) : a = b := by cases a <;> cases b <;> first | rfl | cases h
def lenOk {α : Type _} : Nat → List α → Bool
  | 0, _ => true
  | _ + 1, [] => false
  | n + 1, _ :: r => lenOk n r
theorem lenOk_le {α : Type _} : ∀ {n : Nat} {l : List α}, lenOk n l = true → n ≤ l.length
  | 0, _, _ => Nat.zero_le _
  | _ + 1, [], h => by cases h
  | n + 1, _ :: r, h => Nat.succ_le_succ (lenOk_le (l := r) h)
def lenIs {α : Type _} : Nat → List α → Bool
  | 0, [] => true
  | n + 1, _ :: r => lenIs n r
  | _, _ => false
theorem lenIs_eq {α : Type _} : ∀ {n : Nat} {l : List α}, lenIs n l = true → l.length = n
  | 0, [], _ => rfl
  | n + 1, _ :: r, h => by simp [lenIs_eq (n := n) (l := r) h]
  | 0, _ :: _, h => by cases h
  | _ + 1, [], h => by cases h
theorem beq_out {a b : Nat} (h : Nat.beq a b = true) : a = b := Nat.eq_of_beq_eq_true h
def isStr : TK → Bool | .str => true | _ => false
theorem isStr_eq {k : TK} (h : isStr k = true) : k = .str := by cases k <;> first | rfl | cases h
def isBool : TK → Bool | .bool => true | _ => false
theorem isBool_eq {k : TK} (h : isBool k = true) : k = .bool := by cases k <;> first | rfl | cases h
def isU8 : TK → Bool | .int .u8 => true | _ => false
theorem isU8_eq {k : TK} (h : isU8 k = true) : k = .int .u8 := by
  cases k with
  | int k => cases k <;> first | rfl | cases h
  | _ => cases h

section
variable (P : Program) (T : Tab) (N : Fm)

def cArith (k : IntKind) (r : Int) (st : List AO) (K : KO) : Prop :=
  match k with
  | .i64 => Ob (-9223372036854775808 ≤ r ∧ r ≤ 9223372036854775807) (K (.int r) st)
  | k => K (.sc (.int k (k.wrap r))) st
theorem cArith_out {k r st K} (h : cArith k r st K) : vcArith k r st K := by
  unfold cArith at h
  unfold vcArith
  split at h
  · exact h.out
  · split
    · rename_i h0; exact (h0 rfl).elim
    · exact h

def cBin (op : BinOp) (t : Nat) (x y : AV) (st : List AO) (K : KO) : Prop :=
  match op, x, y with
  | .add, .v (.one (.sc (.int k a))), .v (.one (.sc (.int k' b))) => gd (ikb k' k) (cArith k (a + b) st K)
  | .sub, .v (.one (.sc (.int k a))), .v (.one (.sc (.int k' b))) => gd (ikb k' k) (cArith k (a - b) st K)
  | .mul, .v (.one (.sc (.int k a))), .v (.one (.sc (.int k' b))) => gd (ikb k' k) (cArith k (a * b) st K)
  | .quo, .v (.one (.sc (.int k a))), .v (.one (.sc (.int k' b))) => gd (ikb k' k) (Ob (b ≠ 0) (cArith k (a.tdiv b) st K))
  | .rem, .v (.one (.sc (.int k a))), .v (.one (.sc (.int k' b))) => gd (ikb k' k) (Ob (b ≠ 0) (K (.sc (.int k (a.tmod b))) st))
  | .eql, .v (.one (.sc (.int k a))), .v (.one (.sc (.int k' b))) => gd (ikb k' k) (K (.bool (a == b)) st)
  | .neq, .v (.one (.sc (.int k a))), .v (.one (.sc (.int k' b))) => gd (ikb k' k) (K (.bool (a != b)) st)
  | .lss, .v (.one (.sc (.int k a))), .v (.one (.sc (.int k' b))) => gd (ikb k' k) (K (.bool (decide (a < b))) st)
  | .leq, .v (.one (.sc (.int k a))), .v (.one (.sc (.int k' b))) => gd (ikb k' k) (K (.bool (decide (a ≤ b))) st)
  | .gtr, .v (.one (.sc (.int k a))), .v (.one (.sc (.int k' b))) => gd (ikb k' k) (K (.bool (decide (a > b))) st)
  | .geq, .v (.one (.sc (.int k a))), .v (.one (.sc (.int k' b))) => gd (ikb k' k) (K (.bool (decide (a ≥ b))) st)
  | .add, .v (.one (.sc (.string a))), .v (.one (.sc (.string b))) => Ob (a.size + b.size ≤ 9223372036854775807) (K (.str (a ++ b)) st)
  | .eql, .v (.one (.sc (.bool a))), .v (.one (.sc (.bool b))) => gd (isBool (T.kd t)) (K (.bool (a == b)) st)
  | .neq, .v (.one (.sc (.bool a))), .v (.one (.sc (.bool b))) => gd (isBool (T.kd t)) (K (.bool (!(a == b))) st)
  | .eql, .ptr _ _, .v (.one (.sc (.pointer none))) => gd (T.pt t) (K (.bool false) st)
  | .eql, .v (.one (.sc (.pointer none))), .v (.one (.sc (.pointer none))) => gd (T.pt t) (K (.bool true) st)
  | .eql, .v (.agg cs), .v (.agg ds) => match T.ss t, strsOf cs, strsOf ds with
    | some n, some a, some b => gd (lenIs n a && lenIs n b) (K (.bool (eqStrs a b)) st)
    | _, _, _ => False
  | .neq, .v (.agg cs), .v (.agg ds) => match T.ss t, strsOf cs, strsOf ds with
    | some n, some a, some b => gd (lenIs n a && lenIs n b) (K (.bool (!eqStrs a b)) st)
    | _, _, _ => False
  | op, x, y => vcBin T op t x y st K

theorem cBin_out {op t x y st K} (h : cBin T op t x y st K) : vcBin T op t x y st K := by
  unfold cBin at h
  split at h
  case h_12 => exact h.out
  case h_13 => exact ⟨isBool_eq (gd_out h).1, (gd_out h).2⟩
  case h_14 => exact ⟨isBool_eq (gd_out h).1, (gd_out h).2⟩
  case h_15 => exact gd_out h
  case h_16 => exact gd_out h
  case h_17 =>
    unfold vcBin
    simp only
    split at h
    · rename_i h1 h2 h3
      obtain ⟨h4, h5⟩ := gd_out h
      rw [Bool.and_eq_true] at h4
      rw [h1, h2, h3]
      exact ⟨lenIs_eq h4.1, lenIs_eq h4.2, h5⟩
    · exact h.elim
  case h_18 =>
    unfold vcBin
    simp only
    split at h
    · rename_i h1 h2 h3
      obtain ⟨h4, h5⟩ := gd_out h
      rw [Bool.and_eq_true] at h4
      rw [h1, h2, h3]
      exact ⟨lenIs_eq h4.1, lenIs_eq h4.2, h5⟩
    · exact h.elim
  case h_19 => exact h
  case h_1 => exact ⟨ikb_eq (gd_out h).1, cArith_out (gd_out h).2⟩
  case h_2 => exact ⟨ikb_eq (gd_out h).1, cArith_out (gd_out h).2⟩
  case h_3 => exact ⟨ikb_eq (gd_out h).1, cArith_out (gd_out h).2⟩
  case h_4 => exact ⟨ikb_eq (gd_out h).1, (gd_out h).2.1, cArith_out (gd_out h).2.2⟩
  case h_5 => exact ⟨ikb_eq (gd_out h).1, (gd_out h).2.1, (gd_out h).2.2⟩
  all_goals exact ⟨ikb_eq (gd_out h).1, (gd_out h).2⟩

/-- a cell's row -/
inductive RowAt (xs : List (List D)) (i : Nat) (K : List D → Prop) : Prop
  | mk (cells : List D) (h : xs[i]? = some cells) (k : K cells) : RowAt xs i K
theorem RowAt.ty {α : Type} {enc : α → List D} {es : List α} {i : Nat} {K : List D → Prop} (z : α) (h : i < es.length) (k : K (enc (es.getD i z))) : RowAt (es.map enc) i K :=
  .mk _ (by rw [List.getElem?_map, List.getElem?_eq_getElem h, List.getD_eq_getElem?_getD, List.getElem?_eq_getElem h]; rfl) k

def cLoad (t : Nat) (x : AV) (st : List AO) (K : KO) : Prop :=
  match T.ld t, x with
  | some (n, true), .v (.one (.ref cells)) => gd (lenOk n cells) (K (.agg (cells.take n)) st)
  | some (n, true), .ptr s off => match st[s]? with
    | some (.box bT cells) => match toDs ((cells.drop off).take n) with
      | some ds => gd (lenIs n ds) (K (.agg ds) st)
      | none => False
    | _ => False
  | some (n, true), .ep s v i off => match st[s]? with
    | some (.row v' e sz xs) => Ob (v = v') (RowAt xs i fun cells => gd (lenOk (off + n) cells) (K (.agg ((cells.drop off).take n)) st))
    | _ => False
  | some (_, false), .ep s v i off => match st[s]? with
    | some (.row v' e sz xs) => Ob (v = v') (RowAt xs i fun cells => match cells[off]? with | some d => K (.d d) st | none => False)
    | _ => False
  | _, _ => vcLoad T t x st K

theorem cLoad_out {t x st K} (h : cLoad T t x st K) : vcLoad T t x st K := by
  unfold cLoad at h
  split at h
  · rename_i n cells hl
    unfold vcLoad
    rw [hl]
    exact ⟨lenOk_le (gd_out h).1, (gd_out h).2⟩
  · rename_i n s off hl
    unfold vcLoad
    rw [hl]
    simp only
    split at h
    · rename_i bT cells hst
      rw [hst]
      simp only
      split at h
      · rename_i ds hds
        rw [hds]
        exact ⟨lenIs_eq (gd_out h).1, (gd_out h).2⟩
      · exact h.elim
    · exact h.elim
  · rename_i n s v i off hl
    unfold vcLoad
    rw [hl]
    simp only
    split at h
    · rename_i v' e sz xs hst
      rw [hst]
      obtain ⟨h1, cells, h2, h3⟩ := h
      exact ⟨h1, cells, h2, lenOk_le (gd_out h3).1, (gd_out h3).2⟩
    · exact h.elim
  · rename_i n s v i off hl
    unfold vcLoad
    rw [hl]
    simp only
    split at h
    · rename_i v' e sz xs hst
      rw [hst]
      obtain ⟨h1, cells, h2, h3⟩ := h
      split at h3
      · rename_i d hd
        exact ⟨h1, cells, d, h2, hd, h3⟩
      · exact h3.elim
    · exact h.elim
  · exact h

/-- a row, turned -/
inductive RowSet (xs : List (List D)) (i sz : Nat) (G : List D → Prop → Prop) (f : List D → List D) (K : List (List D) → Prop) : Prop
  | raw (cells : List D) (h : xs[i]? = some cells) (k : G cells (K (xs.set i (f cells)))) : RowSet xs i sz G f K
  | ty {α : Type} (enc : α → List D) (es : List α) (z y : α) (h : xs = es.map enc) (hi : i < es.length) (hy : f (enc (es.getD i z)) = enc y) (k : G (enc (es.getD i z)) (K ((es.set i y).map enc))) : RowSet xs i sz G f K
theorem RowSet.out {xs i sz G f K} (h : RowSet xs i sz G f K) : ∃ cells, xs[i]? = some cells ∧ G cells (K (xs.set i (f cells))) := by
  cases h with
  | raw cells h k => exact ⟨cells, h, k⟩
  | ty enc es z y h hi hy k =>
    subst h
    refine ⟨enc (es.getD i z), by rw [List.getElem?_map, List.getElem?_eq_getElem hi, List.getD_eq_getElem?_getD, List.getElem?_eq_getElem hi]; rfl, ?_⟩
    rw [hy, ← List.map_set]
    exact k

def cStore (t : Nat) (x y : AV) (st : List AO) (K : KO) : Prop :=
  match T.ld t, x, y with
  | some (n, true), .ptr s off, .v (.agg ds) => match st[s]? with
    | some (.box bT cells) => gd (lenIs n ds && lenOk (off + n) cells) (K .junk (st.set s (.box bT (cells.take off ++ ds.map AV.d ++ cells.drop (off + n)))))
    | _ => False
  | some (1, false), .ptr s off, a => match st[s]? with
    | some (.box bT cells) => Ob (okSingle st a) (gd (lenOk (off + 1) cells) (K .junk (st.set s (.box bT (cells.take off ++ [a] ++ cells.drop (off + 1))))))
    | some (.brow e ns) => ∃ m, a = .byte m ∧ Ob (off < ns.length) (K .junk (st.set s (.brow e (ns.set off m))))
    | _ => False
  | some (n, true), .ep s v i off, .v (.agg ds) => match st[s]? with
    | some (.row v' e sz xs) => Ob (v = v') (RowSet xs i sz (fun cells => gd (lenIs n ds && lenOk (off + n) cells)) (fun cells => cells.take off ++ ds ++ cells.drop (off + n)) fun xs' => K .junk (st.set s (.row v e sz xs')))
    | _ => False
  | some (1, false), .ep s v i off, .v (.one d) => match st[s]? with
    | some (.row v' e sz xs) => Ob (v = v') (RowSet xs i sz (fun cells => gd (lenOk (off + 1) cells)) (fun cells => cells.set off d) fun xs' => K .junk (st.set s (.row v e sz xs')))
    | _ => False
  | _, _, _ => vcStore T t x y st K

theorem cStore_out {t x y st K} (h : cStore T t x y st K) : vcStore T t x y st K := by
  unfold cStore at h
  split at h
  · rename_i n s off ds hl
    unfold vcStore
    rw [hl]
    simp only
    split at h
    · rename_i bT cells hst
      rw [hst]
      obtain ⟨h4, h5⟩ := gd_out h
      rw [Bool.and_eq_true] at h4
      exact ⟨lenIs_eq h4.1, lenOk_le h4.2, h5⟩
    · exact h.elim
  · rename_i s off hl
    unfold vcStore
    rw [hl]
    simp only
    split at h
    · rename_i bT cells hst
      rw [hst]
      exact ⟨h.1, lenOk_le (gd_out h.2).1, (gd_out h.2).2⟩
    · rename_i e ns hst
      rw [hst]
      obtain ⟨m, h1, h2, h3⟩ := h
      exact ⟨m, h1, h2, h3⟩
    · exact h.elim
  · rename_i n s v i off ds hl
    unfold vcStore
    rw [hl]
    simp only
    split at h
    · rename_i v' e sz xs hst
      rw [hst]
      obtain ⟨h1, h0⟩ := h
      obtain ⟨cells, h2, h3⟩ := h0.out
      obtain ⟨h4, h5⟩ := gd_out h3
      rw [Bool.and_eq_true] at h4
      exact ⟨h1, cells, h2, lenIs_eq h4.1, lenOk_le h4.2, h5⟩
    · exact h.elim
  · rename_i s v i off d hl
    unfold vcStore
    rw [hl]
    simp only
    split at h
    · rename_i v' e sz xs hst
      rw [hst]
      obtain ⟨h1, h0⟩ := h
      obtain ⟨cells, h2, h3⟩ := h0.out
      exact ⟨h1, cells, h2, lenOk_le (gd_out h3).1, (gd_out h3).2⟩
    · exact h.elim
  · exact h

inductive GiveK (K L : Prop) : Prop | keep (h : K) : GiveK K L | give (h : L) : GiveK K L
def cStoreG (t : Nat) (x y : AV) (st : List AO) (K : KO) : Prop :=
  match y with
  | .h s k lo n => GiveK (cStore T t x (.h s k lo n) st K) (match st[s]? with
    | some (.row k' e sz xs) => Ob (k = k' ∧ lo = 0 ∧ n = xs.length) (cStore T t x (.list sz xs) (st.set s .gone) K)
    | _ => False)
  | y => cStore T t x y st K
theorem cStoreG_out {t x y st K} (h : cStoreG T t x y st K) : vcStoreG T t x y st K := by
  unfold cStoreG at h
  unfold vcStoreG
  split at h
  · simp only
    rcases h with h | h
    · exact .inl (cStore_out T h)
    · refine .inr ?_
      split at h
      · rename_i hst
        rw [hst]
        exact ⟨h.1, cStore_out T h.2⟩
      · exact h.elim
  · rename_i hn
    split
    · exact (hn _ _ _ _ rfl).elim
    · exact cStore_out T h

def cIndexAddr (t : Nat) (x i : AV) (st : List AO) (K : KO) : Prop :=
  match T.el t, x, i with
  | some (e, sz), .v (.one (.tl α sz' enc z xs)), .v (.one (.sc (.int _ n))) => gd (Nat.beq sz' sz) (Ob (0 ≤ n ∧ n < xs.length) (K (.d (.ref (enc (xs.getD n.toNat z)))) st))
  | some (e, sz), .v (.one (.list sz' xs)), .v (.one (.sc (.int _ n))) => gd (Nat.beq sz' sz) (Ob (0 ≤ n) (∃ cells, xs[n.toNat]? = some cells ∧ K (.d (.ref cells)) st))
  | some (e, sz), .h s v lo m, .v (.one (.sc (.int _ n))) => match st[s]? with
    | some (.row v' e' sz' xs) => gd (Nat.beq sz' sz) (Ob (v = v' ∧ 0 ≤ n ∧ n < m) (match Nat.beq lo 0 with | true => K (.ep s v n.toNat 0) st | false => K (.ep s v (lo + n.toNat) 0) st))
    | _ => False
  | _, _, _ => vcIndexAddr T t x i st K
theorem cIndexAddr_out {t x i st K} (h : cIndexAddr T t x i st K) : vcIndexAddr T t x i st K := by
  unfold cIndexAddr at h
  split at h
  · rename_i hl
    unfold vcIndexAddr
    rw [hl]
    obtain ⟨h1, h2⟩ := gd_out h
    exact ⟨beq_out h1, h2.1.1, h2.1.2, h2.2⟩
  · rename_i hl
    unfold vcIndexAddr
    rw [hl]
    obtain ⟨h1, h2⟩ := gd_out h
    exact ⟨beq_out h1, h2.1, h2.2⟩
  · rename_i hl
    unfold vcIndexAddr
    rw [hl]
    simp only
    split at h
    · rename_i hst
      rw [hst]
      obtain ⟨h1, h2⟩ := gd_out h
      refine ⟨beq_out h1, h2.1.1, h2.1.2.1, h2.1.2.2, ?_⟩
      have h3 := h2.2
      split at h3
      · rename_i h4
        rw [beq_out h4, Nat.zero_add]; exact h3
      · exact h3
    · exact h.elim
  · exact h

def cLo (E : Operand → AV) (o : Option Operand) (K : Nat → Prop) : Prop :=
  match o with
  | none => K 0
  | some x => match E x with
    | .v (.one (.sc (.int .i64 n))) => Ob (0 ≤ n) (K n.toNat)
    | _ => False
def cHi (E : Operand → AV) (len : Nat) (o : Option Operand) (K : Nat → Prop) : Prop :=
  match o with
  | none => K len
  | some x => match E x with
    | .v (.one (.sc (.int .i64 n))) => Ob (0 ≤ n) (K n.toNat)
    | _ => False
theorem cLo_out {E : Operand → AV} {o K} {K' : Nat → Prop} (h : cLo E o K) (hk : ∀ n, K n → K' n) : vcLo E o K' := by
  cases o with
  | none => exact hk _ h
  | some x =>
    unfold cLo at h
    unfold vcLo
    simp only at h ⊢
    split at h
    · rename_i he
      simp only [he]
      exact ⟨h.1, hk _ h.2⟩
    · exact h.elim
theorem cHi_out {E : Operand → AV} {o K len} {K' : Nat → Prop} (h : cHi E len o K) (hk : ∀ n, K n → K' n) : vcHi E len o K' := by
  cases o with
  | none => exact hk _ h
  | some x =>
    unfold cHi at h
    unfold vcHi
    simp only at h ⊢
    split at h
    · rename_i he
      simp only [he]
      exact ⟨h.1, hk _ h.2⟩
    · exact h.elim

def cSlice (t : Nat) (x : AV) (lo hi : Option Operand) (E : Operand → AV) (st : List AO) (K : KO) : Prop :=
  match x with
  | .v (.one (.sc (.string s))) => gd (isStr (T.kd t)) (cLo E lo fun l => cHi E s.size hi fun h => Ob (l ≤ h ∧ h ≤ s.size) (K (.str (s.extract l h)) st))
  | .v (.one (.tl α sz enc z xs)) => match T.el t with
    | some (e, sz') => gd (Nat.beq sz sz') (match hi, lo with
      | none, _ => cLo E lo fun l => Ob (l ≤ xs.length) (K (.d (.tl α sz enc z (xs.drop l))) st)
      | some _, none => cHi E xs.length hi fun h => Ob (h ≤ xs.length) (K (.d (.tl α sz enc z (xs.take h))) st)
      | _, _ => cLo E lo fun l => cHi E xs.length hi fun h => Ob (l ≤ h ∧ h ≤ xs.length) (K (.d (.tl α sz enc z ((xs.take h).drop l))) st))
    | none => False
  | .v (.one (.list sz xs)) => match T.el t with
    | some (e, sz') => gd (Nat.beq sz sz') (cLo E lo fun l => cHi E xs.length hi fun h => Ob (l ≤ h ∧ h ≤ xs.length) (K (.list sz ((xs.take h).drop l)) st))
    | none => False
  | .h s k off n => match T.el t, st[s]? with
    | some (e, sz'), some (.row k' e' sz xs) => gd (Nat.beq sz sz') (Ob (k = k') (cLo E lo fun l => cHi E n hi fun h => Ob (l ≤ h ∧ h ≤ n) (K (.h s k (off + l) (h - l)) st)))
    | _, _ => False
  | _ => False
theorem cSlice_out {t x lo hi E st K} (h : cSlice T t x lo hi E st K) : vcSlice T t x lo hi E st K := by
  unfold cSlice at h
  split at h
  · obtain ⟨h1, h2⟩ := gd_out h
    exact ⟨isStr_eq h1, cLo_out h2 fun l hl => cHi_out hl fun n hn => ⟨hn.1.1, hn.1.2, hn.2⟩⟩
  · unfold vcSlice
    simp only
    split at h
    · rename_i hl
      rw [hl]
      obtain ⟨h1, h2⟩ := gd_out h
      refine ⟨beq_out h1, ?_⟩
      split at h2
      · refine cLo_out h2 fun l hl => ?_
        show l ≤ _ ∧ _ ≤ _ ∧ _
        refine ⟨hl.1, Nat.le_refl _, ?_⟩
        rw [List.take_length]; exact hl.2
      · unfold vcLo
        simp only
        refine cHi_out h2 fun n hn => ⟨Nat.zero_le _, hn.1, ?_⟩
        rw [List.drop_zero]; exact hn.2
      · exact cLo_out h2 fun l hl => cHi_out hl fun n hn => ⟨hn.1.1, hn.1.2, hn.2⟩
    · exact h.elim
  · unfold vcSlice
    simp only
    split at h
    · rename_i hl
      rw [hl]
      obtain ⟨h1, h2⟩ := gd_out h
      exact ⟨beq_out h1, cLo_out h2 fun l hl => cHi_out hl fun n hn => ⟨hn.1.1, hn.1.2, hn.2⟩⟩
    · exact h.elim
  · unfold vcSlice
    simp only
    split at h
    · rename_i hl hst
      rw [hl, hst]
      obtain ⟨h1, h2⟩ := gd_out h
      exact ⟨beq_out h1, h2.1, cLo_out h2.2 fun l hl => cHi_out hl fun n hn => ⟨hn.1.1, hn.1.2, hn.2⟩⟩
    · exact h.elim
  · exact h.elim

/-- what is appended: rows, and how many -/
def cSrc (st : List AO) (sz : Nat) (a : AV) (K : List (List D) → Nat → Prop) : Prop :=
  match a with
  | .v (.one (.list sz' [c])) => gd (Nat.beq sz' sz) (K [c] 1)
  | .v (.one (.list sz' [c, d])) => gd (Nat.beq sz' sz) (K [c, d] 2)
  | .v (.one (.list sz' ys)) => gd (Nat.beq sz' sz) (K ys ys.length)
  | .v (.one (.tl α sz' enc z ys)) => gd (Nat.beq sz' sz) (K (ys.map enc) ys.length)
  | .v (.one .nils) => K [] 0
  | .h s k lo n => match st[s]? with
    | some (.row k' e sz' xs) => gd (Nat.beq sz' sz) (Ob (k = k' ∧ lo = 0 ∧ n = xs.length) (K xs n))
    | _ => False
  | _ => False
theorem cSrc_out {st sz a K} {K' : List (List D) → Prop} (h : cSrc st sz a K) (hk : ∀ ys n, n = ys.length → K ys n → K' ys) : srcRows st sz a K' := by
  unfold cSrc at h
  split at h
  · exact ⟨beq_out (gd_out h).1, hk _ _ rfl (gd_out h).2⟩
  · exact ⟨beq_out (gd_out h).1, hk _ _ rfl (gd_out h).2⟩
  · exact ⟨beq_out (gd_out h).1, hk _ _ rfl (gd_out h).2⟩
  · exact ⟨beq_out (gd_out h).1, hk _ _ (by simp) (gd_out h).2⟩
  · exact hk _ _ rfl h
  · unfold srcRows
    simp only
    split at h
    · rename_i hst
      rw [hst]
      obtain ⟨h1, ⟨rfl, rfl, rfl⟩, h3⟩ := gd_out h
      refine ⟨beq_out h1, rfl, ?_⟩
      rw [List.drop_zero, List.take_length]
      exact hk _ _ rfl h3
    · exact h.elim
  · exact h.elim

/-- a source's rows -/
def SrcIs (st : List AO) (sz : Nat) (y : AV) (rows : List (List D)) : Prop := cSrc st sz y fun ys _ => ys = rows
inductive AppK (st : List AO) (e sz by_ s k n : Nat) (rows : List (List D)) (y : AV) (K : KO) : Prop
  | whole (h : n = rows.length) (kk : cSrc st sz y fun ys m => Ob ((n + m) * by_ ≤ 140737488355328) (K (.h s (k + 1) 0 (n + m)) (st.set s (.row (k + 1) e sz (rows ++ ys))))) : AppK st e sz by_ s k n rows y K
  | part (kk : cSrc st sz y fun ys m => Ob ((n + m) * by_ ≤ 140737488355328) (K (.h s (k + 1) 0 (n + m)) (st.set s (.row (k + 1) e sz (rows.take n ++ ys))))) : AppK st e sz by_ s k n rows y K
  | ty {α : Type} (enc : α → List D) (xs ys : List α) (h1 : rows = xs.map enc) (h2 : n = xs.length) (h3 : SrcIs st sz y (ys.map enc)) (h4 : (xs ++ ys).length * by_ ≤ 140737488355328)
      (kk : K (.h s (k + 1) 0 (xs ++ ys).length) (st.set s (.row (k + 1) e sz ((xs ++ ys).map enc)))) : AppK st e sz by_ s k n rows y K
inductive AppN (st : List AO) (e sz by_ : Nat) (y : AV) (K : KO) : Prop
  | raw (k : cSrc st sz y fun ys m => Ob (m * by_ ≤ 140737488355328) (K (.h st.length 0 0 m) (st ++ [.row 0 e sz ys]))) : AppN st e sz by_ y K
  | ty {α : Type} (enc : α → List D) (ys : List α) (h3 : SrcIs st sz y (ys.map enc)) (h4 : ys.length * by_ ≤ 140737488355328) (k : K (.h st.length 0 0 ys.length) (st ++ [.row 0 e sz (ys.map enc)])) : AppN st e sz by_ y K
def cAppend (t : Nat) (x y : AV) (st : List AO) (K : KO) : Prop :=
  match T.ap t, x with
  | some (e, sz, by_), .v (.one .nils) => gd (Nat.ble 1 by_) (AppN st e sz by_ y K)
  | some (e, sz, by_), .h s k lo n => match st[s]? with
    | some (.row k' e' sz' xs) => gd (Nat.ble 1 by_ && Nat.beq e' e && Nat.beq sz' sz && Nat.beq lo 0) (Ob (k = k') (AppK st e sz by_ s k n xs y K))
    | _ => False
  | _, _ => vcAppend T t x y st K

theorem by_le {n b : Nat} (hb : Nat.ble 1 b = true) (h : n * b ≤ 140737488355328) : n ≤ maxLen := by
  have h1 : 1 ≤ b := Nat.le_of_ble_eq_true hb
  have h2 : n * 1 ≤ n * b := Nat.mul_le_mul_left n h1
  have : maxLen = 9223372036854775807 := rfl
  omega

theorem cSrc_len {st sz a K} {K' : List (List D) → Prop} (h : cSrc st sz a K) (hk : ∀ ys n, n = ys.length → K ys n → K' ys) : srcRows st sz a K' := cSrc_out h hk

theorem cAppend_out {t x y st K} (h : cAppend T t x y st K) : vcAppend T t x y st K := by
  unfold cAppend at h
  split at h
  · rename_i hl
    unfold vcAppend
    rw [hl]
    obtain ⟨h1, h2⟩ := gd_out h
    cases h2 with
    | raw h2 =>
      refine cSrc_out h2 fun ys n hn h3 => ?_
      subst hn
      exact ⟨h3.1, by_le h1 h3.1, h3.2⟩
    | ty enc zs h3 h4 k =>
      refine cSrc_out h3 fun ys n hn h5 => ?_
      subst h5
      rw [List.length_map]
      exact ⟨h4, by_le h1 h4, k⟩
  · rename_i hl
    unfold vcAppend
    rw [hl]
    simp only
    split at h
    · rename_i hst
      rw [hst]
      obtain ⟨h1, h2, h3⟩ := gd_out h
      simp only [Bool.and_eq_true] at h1
      refine ⟨⟨h2, beq_out h1.1.1.2, beq_out h1.1.2, beq_out h1.2⟩, ?_⟩
      cases h3 with
      | whole he h3 =>
        refine cSrc_out h3 fun ys n hn h3 => ?_
        subst hn he
        rw [List.take_length]
        exact ⟨h3.1, by_le h1.1.1.1 h3.1, h3.2⟩
      | part h3 =>
        refine cSrc_out h3 fun ys n hn h3 => ?_
        subst hn
        exact ⟨h3.1, by_le h1.1.1.1 h3.1, h3.2⟩
      | ty enc us vs e1 e2 h3 h4 k =>
        subst e1 e2
        refine cSrc_out h3 fun ys n hn h5 => ?_
        subst h5
        have ht : (us.map enc).take us.length = us.map enc := List.take_of_length_le (by simp)
        rw [ht, List.length_map, ← List.length_append, ← List.map_append]
        exact ⟨h4, by_le h1.1.1.1 h4, k⟩
    · exact h.elim
  · exact h

def cAppendS (t : Nat) (x : AV) (s : ByteArray) (st : List AO) (K : KO) : Prop :=
  match T.bb t, x with
  | some e, .v (.one .nils) => Ob (s.size ≤ 140737488351232) (K (.h st.length 0 0 (strRows s).length) (st ++ [.row 0 e 1 (strRows s)]))
  | some e, .h r k lo n => match st[r]? with
    | some (.row k' e' sz xs) => gd (Nat.beq e' e && Nat.beq sz 1 && Nat.beq lo 0) (Ob (k = k' ∧ n = xs.length) (Ob (n + s.size ≤ 140737488351232) (K (.h r (k + 1) 0 (n + (strRows s).length)) (st.set r (.row (k + 1) e 1 (xs ++ strRows s))))))
    | _ => False
  | _, _ => False
theorem cAppendS_out {t x s st K} (h : cAppendS T t x s st K) : vcAppendS T t x s st K := by
  unfold cAppendS at h
  unfold vcAppendS
  split at h
  · rename_i hl
    simp only [hl]
    exact h.out
  · rename_i hl
    simp only [hl]
    split at h
    · rename_i hst
      obtain ⟨h1, h2, h3⟩ := gd_out h
      obtain ⟨rfl, rfl⟩ := h2
      simp only [Bool.and_eq_true] at h1
      have e1 := beq_out h1.1.1
      have e2 := beq_out h1.1.2
      have e3 := beq_out h1.2
      subst e1 e2 e3
      simp only [hst, List.take_length]
      exact ⟨⟨trivial, trivial, trivial, trivial⟩, h3.1, h3.2⟩
    · exact h.elim
  · exact h.elim

def isSl : TK → Bool | .slice _ => true | _ => false
theorem isSl_eq {k : TK} (h : isSl k = true) : ∃ e, k = .slice e := by cases k <;> first | exact ⟨_, rfl⟩ | cases h
def cLen (t : Nat) (x : AV) (st : List AO) (K : KO) : Prop :=
  match T.kd t, x with
  | .slice _, .h s k _ n => match st[s]? with
    | some (.row k' _ _ _) => Ob (k = k') (K (.int n) st)
    | _ => False
  | _, _ => vcLen T t x st K
theorem cLen_out {t x st K} (h : cLen T t x st K) : vcLen T t x st K := by
  unfold cLen at h
  split at h
  · rename_i hk
    unfold vcLen
    rw [hk]
    simp only
    split at h
    · rename_i hst
      rw [hst]
      exact h.out
    · exact h.elim
  · exact h

/-- a call, data alone -/
inductive CallD (P : Program) (f : FuncId) (ds : List DV) (st : List AO) (K : KO) : Prop
  | mk (ds' res : List DV) (h : Impl P f ds' res) (hl : AsLe ds ds') (k : K (resAV res) st) : CallD P f ds st K
  | own (e : TypeId) (sz : Nat) (xs : List (List D)) (h : Gives P f ds e sz xs) (k : K (.h st.length 0 0 xs.length) (st ++ [.row 0 e sz xs])) : CallD P f ds st K
theorem CallD.of {P f ds res st K} (h : Impl P f ds res) (k : K (resAV res) st) : CallD P f ds st K := .mk ds res h (AsLe.refl _) k
/-- .. of a list of such things -/
theorem CallD.ownt {P f ds st K} {α : Type} (e : TypeId) (sz : Nat) (enc : α → List D) (xs : List α) (h : Gives P f ds e sz (xs.map enc)) (k : K (.h st.length 0 0 xs.length) (st ++ [.row 0 e sz (xs.map enc)])) : CallD P f ds st K :=
  .own e sz _ h (by rw [List.length_map]; exact k)
/-- a call, own things among the arguments -/
inductive CallE (P : Program) (f : FuncId) (args : List AV) (st : List AO) (K : KO) : Prop
  | eff (res : List DV) (st' : List AO) (h : Eff P f args st res st') (k : K (resAV res) st') : CallE P f args st K
  | give (h : sealK st args fun st' ds => ∃ ds' res, Impl P f ds' res ∧ AsLe ds ds' ∧ K (resAV res) st') : CallE P f args st K
  | lend (h : sealK st args fun _ ds => ∃ ds' res, Impl P f ds' res ∧ AsLe ds ds' ∧ res.all scDV = true ∧ K (resAV res) st) : CallE P f args st K

def cCall (f : AV) (args : List AV) (st : List AO) (K : KO) : Prop :=
  match f with
  | .v (.one (.sc (.func (.func f) ⟨[]⟩ ⟨[]⟩))) => match T.ei f with
    | true => (match args with
      | [a] => K a st
      | _ => False)
    | false => gd (T.cl f) (match argsDV args with
      | some ds => CallD P f ds st K
      | none => CallE P f args st K)
  | _ => False
theorem cCall_out {f args st K} (h : cCall P T f args st K) : vcCall P T f args st K := by
  unfold cCall at h
  split at h
  · rename_i f'
    unfold vcCall
    simp only
    cases hei : T.ei f' with
    | true =>
      simp only [hei] at h
      exact h
    | false =>
      simp only [hei] at h
      obtain ⟨h1, h2⟩ := gd_out h
      refine ⟨h1, ?_⟩
      cases hds : argsDV args with
      | some ds =>
        simp only [hds] at h2
        cases h2 with
        | mk a b c d e => exact .inl ⟨a, b, c, d, e⟩
        | own a b c d e => exact .inr ⟨a, b, c, d, e⟩
      | none =>
        simp only [hds] at h2
        cases h2 with
        | eff a b c d => exact .inl ⟨a, b, c, d⟩
        | give h => exact .inr (.inl h)
        | lend h => exact .inr (.inr h)
  · exact h.elim

/-- bytes as a text -/
def bytesS (ns : List Int) : ByteArray := ⟨(ns.map fun n => UInt8.ofNat n.toNat).toArray⟩
inductive BytesK (st : List AO) (a : AV) (K : ByteArray → Prop) : Prop
  | mk (ns : List Int) (h : SrcIs st 1 a (ns.map byteRow)) (k : K (bytesS ns)) : BytesK st a K
def cConv (s d : Nat) (x : AV) (st : List AO) (K : KO) : Prop :=
  match T.kd s, T.kd d, x with
  | .int k', .int k, .v (.one (.sc (.int k2 n))) => gd (ikb k2 k') (K (.sc (.int k (k.wrap n))) st)
  | .str, .slice e, .v (.one (.sc (.string s))) => gd (isU8 (T.kd e)) (K (.bs st.length s.size) (st ++ [.brow e (bytesI s)]))
  | .slice e, .str, .bs r n => gd (isU8 (T.kd e)) (match st[r]? with
    | some (.brow e' ns) => Ob (n = ns.length) (K (.str ⟨(ns.map fun n => UInt8.ofNat n.toNat).toArray⟩) st)
    | _ => False)
  | .slice e, .str, a => gd (isU8 (T.kd e)) (BytesK st a fun b => K (.str b) st)
  | _, _, _ => vcConv T s d x st K
theorem cConv_out {s d x st K} (h : cConv T s d x st K) : vcConv T s d x st K := by
  unfold cConv at h
  split at h
  · rename_i h1 h2
    unfold vcConv
    rw [h1, h2]
    exact ⟨ikb_eq (gd_out h).1, (gd_out h).2⟩
  · rename_i h1 h2
    unfold vcConv
    rw [h1, h2]
    exact ⟨isU8_eq (gd_out h).1, (gd_out h).2⟩
  · rename_i h1 h2
    unfold vcConv
    rw [h1, h2]
    simp only
    obtain ⟨h3, h4⟩ := gd_out h
    refine ⟨isU8_eq h3, ?_⟩
    split at h4
    · rename_i hst
      rw [hst]
      exact ⟨h4.1, h4.2⟩
    · exact h4.elim
  · rename_i h1 h2 hx
    unfold vcConv
    rw [h1, h2]
    obtain ⟨h3, h4⟩ := gd_out h
    split
    · exact absurd ‹TK.slice _ = TK.other› (by intro e; cases e)
    · exact absurd ‹TK.slice _ = TK.int _› (by intro e; cases e)
    · exact absurd ‹TK.slice _ = TK.str› (by intro e; cases e)
    · exact (hx _ _ rfl).elim
    · have e := ‹TK.slice _ = TK.slice _›; cases e; obtain ⟨ns, h5, h6⟩ := h4; exact ⟨isU8_eq h3, cSrc_out h5 fun ys n hn h7 => ⟨ns, h7, h6⟩⟩
    · exfalso; solve_by_elim
  · exact h



def forceL {α : Type _} : List α → (List α → Prop) → Prop
  | [], K => K []
  | a :: r, K => forceL r fun r' => K (a :: r')
theorem forceL_out {α : Type _} : ∀ {l : List α} {K : List α → Prop}, forceL l K → K l
  | [], _, h => h
  | a :: r, K, h => forceL_out (l := r) (K := fun r' => K (a :: r')) h

/-- how a fresh list is taken -/
inductive NewS (st : List AO) (e sz : Nat) (l : List (List D)) (K : KO) : Prop
  | list (k : K (.list sz l) st) : NewS st e sz l K
  | full (k : K (.d (.full sz l)) st) : NewS st e sz l K
  | own (k : K (.h st.length 0 0 l.length) (st ++ [.row 0 e sz l])) : NewS st e sz l K
  | ty {α : Type} (enc : α → List D) (z : α) (es : List α) (h : l = es.map enc) (k : K (.d (.tl α sz enc z es)) st) : NewS st e sz l K
  | ownt {α : Type} (enc : α → List D) (es : List α) (h : l = es.map enc) (k : K (.h st.length 0 0 es.length) (st ++ [.row 0 e sz (es.map enc)])) : NewS st e sz l K

def cBuild (t len : Nat) (parts : Array (Nat × Operand)) (E : Operand → AV) (st : List AO) (K : KO) : Prop :=
  match T.el t with
    | some (e, sz) => match T.zd e with
      | some zs => match fillD (fun i => some (i * sz, sz)) ((List.range (len * sz)).map fun i => zs.getD (i % sz) .nils) (parts.toList.map fun p => (p.1, E p.2)) with
        | some ds => gd (lenIs sz zs && Nat.ble 1 (len * sz) && Nat.ble (len * sz) 16777216 && lenIs (len * sz) ds && lenIs len (chunk sz ds len)) (forceL (chunk sz ds len) fun l => NewS st e sz l K)
        | none => False
      | none => False
    | none => False

theorem unty {P : Program} {op : Op} {E : Operand → AV} {st : List AO} {K : KO} {α : Type} {sz : Nat} {enc : α → List D} {z : α} {es : List α} (h : OpS P op E st (.list sz (es.map enc)) st) (k : K (.d (.tl α sz enc z es)) st) : ∃ v st', OpS P op E st v st' ∧ K v st' :=
  ⟨_, _, h.weaken (v' := .d (.tl α sz enc z es)) (fun σ gh u hu => Rep.tl hu) (fun hj => by cases hj), k⟩

theorem cBuild_sound (hT : TabOk P T) {t len parts} {E : Operand → AV} {st K} (h : cBuild T t len parts E st K) : ∃ v st', OpS P (.buildSlice t len parts) E st v st' ∧ K v st' := by
  unfold cBuild at h
  cases hl : T.el t with
  | none => simp only [hl] at h
  | some x =>
    obtain ⟨e, sz⟩ := x
    simp only [hl] at h
    cases hz : T.zd e with
    | none => simp only [hz] at h
    | some zs =>
      simp only [hz] at h
      split at h
      · rename_i ds hf
        obtain ⟨h1, h2⟩ := gd_out h
        simp only [Bool.and_eq_true] at h1
        have e1 := lenIs_eq h1.1.1.1.1
        have e2 := Nat.le_of_ble_eq_true h1.1.1.1.2
        have e3 := Nat.le_of_ble_eq_true h1.1.1.2
        have e4 := lenIs_eq h1.1.2
        have e5 := lenIs_eq h1.2
        have hop := op_buildSlice (E := E) (st := st) (P := P) t e sz len parts zs ds (hT.el _ _ hl) (hT.zd _ _ hz) e1 e2 e3 hf e4
        have hop2 := op_buildSliceH (E := E) (st := st) (P := P) t e sz len parts zs ds (hT.el _ _ hl) (hT.zd _ _ hz) e1 e2 e3 hf e4
        have h3 := forceL_out h2
        generalize hch : chunk sz ds len = l at *
        subst e5
        cases h3 with
        | list k => exact ⟨_, _, hop.weaken (v' := .list sz _) (fun σ gh u hu => full_list hu) (fun hj => by cases hj), k⟩
        | full k => exact ⟨_, _, hop, k⟩
        | own k => exact ⟨_, _, hop2, k⟩
        | ty enc z es he k =>
          subst he
          exact unty (hop.weaken (v' := .list sz _) (fun σ gh u hu => full_list hu) (fun hj => by cases hj)) k
        | ownt enc es he k =>
          subst he
          exact ⟨_, _, hop2, by rw [List.length_map]; exact k⟩
      · exact h.elim

def cOp (op : Op) (E : Operand → AV) (st : List AO) (K : KO) : Prop :=
  match op with
  | .pick c a b => match E c with
    | .v (.one (.sc (.bool b'))) => Br b' (force (E a) fun v => K v st) (force (E b) fun v => K v st)
    | _ => False
  | .binOp op t x y _ => cBin T op t (E x) (E y) st K
  | .convert s d x => cConv T s d (E x) st K
  | .buildSlice t 0 ⟨[]⟩ => vcOp P T (.buildSlice t 0 ⟨[]⟩) E st K
  | .buildSlice t len parts => cBuild T t len parts E st K
  | .load t a => cLoad T t (E a) st K
  | .store t a x => cStoreG T t (E a) (E x) st K
  | .fieldAddr s x f => match T.fo s f, E x with
    | some k, .ep i v j off => match st[i]? with
      | some (.row v' _ _ _) => Ob (v = v') (K (.ep i v j (off + k)) st)
      | _ => False
    | _, _ => vcOp P T (.fieldAddr s x f) E st K
  | .indexAddr t x i => cIndexAddr T t (E x) (E i) st K
  | .index t x i => match E x, E i with
    | .v (.one (.sc (.string s))), .v (.one (.sc (.int _ n))) => gd (isStr (T.kd t)) (Ob (0 ≤ n ∧ n < s.size) (K (.byte (byteAt s n.toNat)) st))
    | _, _ => False
  | .slice t x lo hi none => cSlice T t (E x) lo hi E st K
  | .call { callee := .value x, args := args, .. } => cCall P T (E x) (args.toList.map E) st K
  | .call { callee := .builtin .len, args := ⟨[x]⟩, argTypes := ⟨[t]⟩ } => cLen T t (E x) st K
  | .call { callee := .builtin .append, args := ⟨[x, y]⟩, argTypes := ⟨[t, t']⟩ } => match E y with
    | .v (.one (.sc (.string s))) => gd (isStr (T.kd t')) (cAppendS T t (E x) s st K)
    | y => gd (Nat.beq t' t) (cAppend T t (E x) y st K)
  | .nilCheck x => match E x with
    | .ep s v i off => match st[s]? with
      | some (.row v' _ _ _) => Ob (v = v') (K (.ep s v i off) st)
      | _ => False
    | _ => vcOp P T (.nilCheck x) E st K
  | .unOp .neg _ x => match E x with
    | .v (.one (.sc (.int k b))) => cArith k (0 - b) st K
    | _ => False
  | op => vcOp P T op E st K

theorem cOp_sound (hT : TabOk P T) {op : Op} {E : Operand → AV} {st : List AO} {K : KO} (h : cOp P T op E st K) : ∃ v st', OpS P op E st v st' ∧ K v st' := by
  unfold cOp at h
  split at h
  case h_5 => exact cBuild_sound P T hT h
  all_goals refine vcOp_sound hT ?_
  · unfold vcOp
    simp only
    split at h
    · rename_i hb
      rw [hb]
      exact ⟨h.1, h.2⟩
    · exact h.elim
  · exact cBin_out T h
  · exact cConv_out T h
  · exact h
  · exact cLoad_out T h
  · exact cStoreG_out T h
  · split at h
    · rename_i hf hx
      unfold vcOp
      simp only
      rw [hf, hx]
      simp only
      split at h
      · rename_i hst
        rw [hst]
        exact h.out
      · exact h.elim
    · exact h
  · exact cIndexAddr_out T h
  · unfold vcOp
    simp only
    split at h
    · rename_i hx hi
      rw [hx, hi]
      obtain ⟨h1, h2⟩ := gd_out h
      exact ⟨isStr_eq h1, h2.1.1, h2.1.2, h2.2⟩
    · exact h.elim
  · exact cSlice_out T h
  · exact cCall_out P T h
  · exact cLen_out T h
  · unfold vcOp
    simp only
    split at h
    · rename_i hy
      rw [hy]
      exact ⟨isStr_eq (gd_out h).1, cAppendS_out T (gd_out h).2⟩
    · rename_i hn
      obtain ⟨h1, h2⟩ := gd_out h
      split
      · rename_i hy; exact (hn _ hy).elim
      · exact ⟨beq_out h1, cAppend_out T h2⟩
  · split at h
    · rename_i hx
      unfold vcOp
      simp only
      rw [hx]
      simp only
      split at h
      · rename_i hst
        rw [hst]
        exact h.out
      · exact h.elim
    · exact h
  · unfold vcOp
    simp only
    split at h
    · rename_i hx; rw [hx]; exact cArith_out h
    · exact h.elim
  · exact h

def cOp2 (op : Op) (E : Operand → AV) (st : List AO) (K : KO) : Prop :=
  match op with
  | .binOp .eql t x (.const (.slice none 0 0)) ty => vcOp2 P T (.binOp .eql t x (.const (.slice none 0 0)) ty) E st K
  | op => cOp P T op E st K
theorem cOp2_sound (hT : TabOk P T) {op : Op} {env : Env} {st : List AO} {K : KO} (h : cOp2 P T op (evalE env) st K) : OpN P op (evalE env) st K := by
  unfold cOp2 at h
  split at h
  · exact vcOp2_sound hT h
  · obtain ⟨v, st', h1, h2⟩ := cOp_sound P T hT h
    exact h1.n h2

def gBr (want b : Bool) (K L : Prop) : Prop := match want with | true => Br b K L | false => Br b L K
theorem gBr_out {want b : Bool} {K L : Prop} (h : gBr want b K L) : (b = want → K) ∧ (b ≠ want → L) := by
  cases want with
  | true => exact ⟨h.1, fun e => h.2 (by cases b <;> simp_all)⟩
  | false => exact ⟨h.2, fun e => h.1 (by cases b <;> simp_all)⟩

def cL (ops : List Oper) : List Oper → Env → List AO → (Env → List AO → Prop) → Prop
  | [], env, st, K => K env st
  | o :: rest, env, st, K => match o.guard with
    | none => cOp2 P T o.op (evalE env) st fun v st' => cL ops rest (updO env o.dst v) st' K
    | some (j, want) => match ops[j]? with
      | some oj => match oj.dst with
        | some d => match env d with
          | .v (.one (.sc (.bool b))) => gd (Nat.blt d N.n) (gBr want b (cOp P T o.op (evalE (upd env d (.bool want))) st fun v st' => cL ops rest (updO (upd env d (.bool want)) o.dst v) st' K) (cL ops rest (updO (upd env d (.bool (!want))) o.dst (.tup [])) st K))
          | .tup [] => gd (Nat.blt d N.n) (cL ops rest (updO env o.dst (.tup [])) st K)
          | _ => False
        | none => False
      | none => False

theorem upd_eq {env : Env} {d : Nat} {v : AV} (h : env d = v) : upd env d v = env := by
  funext t
  unfold upd
  split
  · rename_i e; rw [e, h]
  · rfl
theorem vcOp_mono {op : Op} {E : Operand → AV} {st : List AO} {K K' : KO} (hT : TabOk P T) (h : vcOp P T op E st K) (hk : ∀ v s, K v s → K' v s) : ∃ v st', OpS P op E st v st' ∧ K' v st' := by
  obtain ⟨v, s, h1, h2⟩ := vcOp_sound hT h
  exact ⟨v, s, h1, hk _ _ h2⟩

theorem cL_sound (hT : TabOk P T) {ops : List Oper} : ∀ {l : List Oper} {env : Env} {st : List AO} {K : Env → List AO → Prop}, dstOk N l → cL P T N ops l env st K → WPL P N ops.toArray l env st K
  | [], env, st, K, _, h => WPL_nil h
  | o :: rest, env, st, K, hd, h => by
    have hd0 : ∀ d, o.dst = some d → d < N.n := hd o (by simp)
    have hdr : dstOk N rest := fun o' ho' => hd o' (by simp [ho'])
    obtain ⟨dst, op, ty, pos, after, guard⟩ := o
    unfold cL at h
    split at h
    · rename_i hg
      simp only at hg
      subst hg
      exact WPL_opN hd0 ((cOp2_sound P T hT h).mono fun v st' h2 => cL_sound hT hdr h2)
    · rename_i j want hg
      simp only at hg
      subst hg
      split at h
      · rename_i oj hj
        split at h
        · rename_i d hdj
          split at h
          · rename_i b hb
            obtain ⟨hdN, h12⟩ := gd_out h
            obtain ⟨h1, h2⟩ := gBr_out h12
            have hdN : d < N.n := Nat.le_of_ble_eq_true hdN
            refine WPL_guard (b := b) (by simpa using hj) hdj hdN hb (fun e => ?_) (fun e => ⟨hd0, ?_⟩)
            · have h1 := h1 e
              rw [upd_eq (show env d = .bool want by rw [hb, e])] at h1
              obtain ⟨v, st', h3, h4⟩ := cOp_sound P T hT h1
              exact ⟨v, st', h3, hd0, cL_sound hT hdr h4⟩
            · have h2 := h2 e
              rw [upd_eq (show env d = .bool (!want) by rw [hb]; cases b <;> cases want <;> simp_all)] at h2
              exact cL_sound hT hdr h2
          · rename_i hb
            obtain ⟨hdN, h2⟩ := gd_out h
            have hdN : d < N.n := Nat.le_of_ble_eq_true hdN
            exact WPL_guard0 (by simpa using hj) hdj hdN hb hd0 (cL_sound hT hdr h2)
          · exact h.elim
        · exact h.elim
      · exact h.elim

def cQ (ops : List Oper) (st : List AO) : List Oper → Env → (Env → Prop) → Prop
  | [], env, K => K env
  | o :: rest, env, K => match o.guard with
    | none => cOp P T o.op (evalE env) st fun v st' => Ob (st' = st) (cQ ops st rest (updO env o.dst v) K)
    | some (j, want) => match ops[j]? with
      | some oj => match oj.dst with
        | some d => match env d with
          | .v (.one (.sc (.bool b))) => gd (Nat.blt d N.n) (gBr want b (cOp P T o.op (evalE (upd env d (.bool want))) st fun v st' => Ob (st' = st) (cQ ops st rest (updO (upd env d (.bool want)) o.dst v) K)) (cQ ops st rest (updO (upd env d (.bool (!want))) o.dst .junk) K))
          | _ => False
        | none => False
      | none => False

theorem cQ_sound (hT : TabOk P T) {ops : List Oper} {st : List AO} : ∀ {l : List Oper} {env : Env} {K : Env → Prop}, dstOk N l → cQ P T N ops st l env K → WQ P N ops.toArray st K l env
  | [], env, K, _, h => WQ_nil h
  | o :: rest, env, K, hd, h => by
    have hd0 : ∀ d, o.dst = some d → d < N.n := hd o (by simp)
    have hdr : dstOk N rest := fun o' ho' => hd o' (by simp [ho'])
    obtain ⟨dst, op, ty, pos, after, guard⟩ := o
    unfold cQ at h
    split at h
    · rename_i hg
      simp only at hg
      subst hg
      obtain ⟨v, st', h1, h2, h3⟩ := cOp_sound P T hT h
      subst h2
      exact WQ_op h1 hd0 (cQ_sound hT hdr h3)
    · rename_i j want hg
      simp only at hg
      subst hg
      split at h
      · rename_i oj hj
        split at h
        · rename_i d hdj
          split at h
          · rename_i b hb
            obtain ⟨hdN, h12⟩ := gd_out h
            obtain ⟨h1, h2⟩ := gBr_out h12
            have hdN : d < N.n := Nat.le_of_ble_eq_true hdN
            refine WQ_guard (b := b) (by simpa using hj) hdj hdN hb hd0 (fun e => ?_) (fun e => ?_)
            · have h1 := h1 e
              rw [upd_eq (show env d = .bool want by rw [hb, e])] at h1
              obtain ⟨v, st', h3, h4, h5⟩ := cOp_sound P T hT h1
              subst h4
              exact ⟨v, h3, cQ_sound hT hdr h5⟩
            · have h2 := h2 e
              rw [upd_eq (show env d = .bool (!want) by rw [hb]; cases b <;> cases want <;> simp_all)] at h2
              exact cQ_sound hT hdr h2
          · exact h.elim
        · exact h.elim
      · exact h.elim

def setB (env : Env) (c : Operand) (b : Bool) : Env := match c with | .tmp d => upd env d (.bool b) | _ => env
theorem setB_eq {env : Env} {c : Operand} {b : Bool} (h : evalE env c = .bool b) : setB env c b = env := by
  unfold setB
  split
  · exact upd_eq h
  · rfl

def vcc : Code → Env → List AO → Post → Prop
  | .skip, env, st, Q => Q .normal env st
  | .label _, env, st, Q => Q .normal env st
  | .exit l, env, st, Q => Q (.exit l) env st
  | .goto l, env, st, Q => Q (.goto l) env st
  | .ret, env, st, Q => Q .ret env st
  | .seq (.label l) y, env, st, Q => WP P N (.seq (.label l) y) env st Q
  | .seq x y, env, st, Q => vcc x env st (Then (fun env st => WP P N y env st Q) Q)
  | .cond c x y, env, st, Q => match evalE env c with
    | .v (.one (.sc (.bool b))) => Br b (WP P N x (setB env c true) st Q) (WP P N y (setB env c false) st Q)
    | _ => False
  | .block id c, env, st, Q => WP P N c env st (InBlock id Q)
  | .region _ ops false, env, st, Q => cL P T N ops.toList ops.toList env st (Q .normal)
  | .region id ops true, env, st, Q => match Region.lexB .any ops with
    | true => cQ P T N ops.toList st ops.toList env fun env => Q .normal env st
    | false => WP P N (.region id ops true) env st Q
  | c, env, st, Q => WP P N c env st Q

/-- every slot that is written is there -/
def slotsOk (N : Fm) : Code → Bool
  | .region _ ops _ => ops.toList.all (fun o => match o.dst with | some d => Nat.blt d N.n | none => true)
  | .seq (.label _) _ => false
  | .seq a _ => slotsOk N a
  | .block _ (.loop _) => false
  | .cond _ _ _ | .block _ _ | .skip | .label _ | .exit _ | .goto _ | .ret => true
  | _ => false

theorem vcc_sound (hT : TabOk P T) : ∀ {c : Code} {env : Env} {st : List AO} {Q : Post}, slotsOk N c = true → vcc P T N c env st Q → WP P N c env st Q := by
  intro c
  induction c with
  | skip => intro env st Q _ h; exact WP_skip h
  | label l => intro env st Q _ h; exact WP_label h
  | exit l => intro env st Q _ h; exact WP_exit h
  | goto l => intro env st Q _ h; exact WP_goto h
  | ret => intro env st Q _ h; exact WP_ret h
  | seq x y ihx ihy =>
    intro env st Q hok h
    cases x with
    | label l => exact h
    | _ => first | exact WP_seq (ihx hok h) | (simp only [slotsOk] at hok; exact WP_seq (ihx hok h))
  | cond c x y ihx ihy =>
    intro env st Q hok h
    unfold vcc at h
    split at h
    · rename_i b hb
      refine WP_cond hb (fun e => ?_) (fun e => ?_)
      · have h1 := h.1 e; rwa [setB_eq (by rw [hb, e])] at h1
      · have h1 := h.2 e; rwa [setB_eq (by rw [hb, e])] at h1
    · exact h.elim
  | block id c ih => intro env st Q hok h; exact WP_block h
  | region id ops draw =>
    intro env st Q hok h
    simp only [slotsOk, List.all_eq_true] at hok
    have hd : dstOk N ops.toList := fun o ho d hdo => by
      have := hok o ho
      rw [hdo] at this
      exact Nat.le_of_ble_eq_true this
    obtain ⟨l⟩ := ops
    cases draw with
    | false => exact WP_region (cL_sound P T N hT hd h)
    | true =>
      unfold vcc at h
      split at h
      · rename_i hl; exact WP_draw hT.mixed hl (cQ_sound P T N hT hd h)
      · exact h
  | _ => intro env st Q _ h; exact h

/-- what is handed back; rows of one's own are given out -/
def retC : List ResultVar → Env → List AO → (List DV → Prop) → Prop
  | [], env, st, K => K []
  | .tmp t :: r, env, st, K => match env t with
    | .v d => retC r env st fun ds => K (d :: ds)
    | .h s k lo n => match st[s]? with
      | some (.row k' e sz xs) => Ob (k = k' ∧ lo = 0 ∧ n = xs.length) (retC r (upd env t (.list sz xs)) (st.set s .gone) fun ds => K (.one (.list sz xs) :: ds))
      | _ => False
    | _ => False
  | .cell a t :: r, env, st, K => match env a, T.ld t with
    | .ptr s off, some (n, true) => match st[s]? with
      | some (.box bT cells) => match toDs ((cells.drop off).take n) with
        | some cs => gd (lenIs n cs) (retC r env st fun ds => K (.agg cs :: ds))
        | none => False
      | _ => False
    | .ptr s off, some (_, false) => match st[s]? with
      | some (.box bT cells) => match cells[off]? with
        | some (.v (.one d)) => retC r env st fun ds => K (.one d :: ds)
        | _ => False
      | _ => False
    | _, _ => False
theorem retC_out : ∀ {rs : List ResultVar} {env : Env} {st : List AO} {K : List DV → Prop}, retC T rs env st K → retK T rs env st K
  | [], env, st, K, h => h
  | .tmp t :: r, env, st, K, h => by
    unfold retC at h
    unfold retK
    split at h
    · rename_i he
      simp only [he]
      exact retC_out h
    · rename_i he
      simp only [he]
      split at h
      · rename_i hst
        simp only [hst]
        exact ⟨h.1, retC_out h.2⟩
      · exact h.elim
    · exact h.elim
  | .cell a t :: r, env, st, K, h => by
    unfold retC at h
    unfold retK
    split at h
    · rename_i s off n ha hl
      simp only [ha, hl]
      split at h
      · rename_i hst
        simp only [hst]
        split at h
        · rename_i hcs
          simp only [hcs]
          exact ⟨lenIs_eq (gd_out h).1, retC_out (gd_out h).2⟩
        · exact h.elim
      · exact h.elim
    · rename_i s off n ha hl
      simp only [ha, hl]
      split at h
      · rename_i hst
        simp only [hst]
        split at h
        · rename_i hcs
          simp only [hcs]
          exact retC_out h
        · exact h.elim
      · exact h.elim
    · exact h.elim

def RetC (rs : List ResultVar) (res : List DV) : Post
  | .normal, env, st => retC T rs env st fun ds => AsLe ds res
  | .ret, env, st => retC T rs env st fun ds => AsLe ds res
  | _, _, _ => False

theorem impl_wp {P : Program} {T : Tab} (hT : TabOk P T) {f : FuncId} {fn : Func} {n : Nat} {c : Code} {args res : List DV} (hf : P.funcs[f]? = some fn) (hN : fn.ntmps = n) (hb : fn.body = some c) (hn : Nat.ble args.length n = true)
    (h : WP P ⟨n, 0⟩ c (argsE (args.map AV.v)) [] (RetC T fn.results.toList res)) : Impl P f args res :=
  impl_vc hT hf hN hb (Nat.le_of_ble_eq_true hn) (WP_mono h fun e env st q => by
    cases e with
    | normal => exact retC_out T q
    | ret => exact retC_out T q
    | _ => exact q)

/-- a function that is one scope -/
theorem impl_ws {P : Program} {T : Tab} (hT : TabOk P T) {f : FuncId} {fn : Func} {n : Nat} {c : Code} {args res : List DV} (hf : P.funcs[f]? = some fn) (hN : fn.ntmps = n) (hb : fn.body = some (.scope c)) (hn : Nat.ble args.length n = true)
    (h : WP P ⟨n, 0⟩ (.scope c) (argsE (args.map AV.v)) [] (RetC T fn.results.toList res)) : Impl P f args res := impl_wp hT hf hN hb hn h

/-- a function without a loop -/
theorem impl_c {P : Program} {T : Tab} (hT : TabOk P T) {f : FuncId} {fn : Func} {n : Nat} {c : Code} {args res : List DV} (hf : P.funcs[f]? = some fn) (hN : fn.ntmps = n) (hb : fn.body = some c) (hn : Nat.ble args.length n = true) (hs : slotsOk ⟨n, 0⟩ c = true)
    (h : vcc P T ⟨n, 0⟩ c (argsE (args.map AV.v)) [] (RetC T fn.results.toList res)) : Impl P f args res :=
  impl_wp hT hf hN hb hn (vcc_sound P T _ hT hs h)

end
end Go.Proofs.Nw.K
end
section
/- V2: functions that may have no answer; cuts. -/
open Go Go.RowKit
set_option linter.unusedVariables false
set_option linter.unusedSimpArgs false
namespace Go.Proofs.Nw.K
universe u

/-- on, if that is so -/
def chk {α : Type u} (c : Prop) [Decidable c] (k : Option α) : Option α := if c then k else none
theorem chk_some {α : Type u} {c : Prop} [Decidable c] {k : Option α} {r : α} (h : chk c k = some r) : c ∧ k = some r := by
  unfold chk at h
  split at h
  · exact ⟨‹c›, h⟩
  · cases h
theorem chk_ok {α : Type u} {c : Prop} [Decidable c] {k : Option α} (h : c) : chk c k = k := if_pos h
theorem bind_some {α β : Type u} {x : Option α} {f : α → Option β} {r : β} (h : x.bind f = some r) : ∃ v, x = some v ∧ f v = some r := Option.bind_eq_some_iff.1 h
theorem bif_t {α : Type u} {b : Bool} {x y r : α} (hb : b = true) (h : (bif b then x else y) = r) : x = r := by subst hb; exact h
theorem bif_f {α : Type u} {b : Bool} {x y r : α} (hb : b = false) (h : (bif b then x else y) = r) : y = r := by subst hb; exact h
abbrev in64 (x : Int) : Prop := -9223372036854775808 ≤ x ∧ x ≤ 9223372036854775807
/-- room for a row -/
abbrev room (n sz : Nat) : Prop := n * sz ≤ 140737488355328
/-- a text that is not too long -/
abbrev textOk (n : Nat) : Prop := n ≤ 9223372036854775807
abbrev seqS (a b : ByteArray) : Bool := a.toList == b.toList

/-- before what comes behind -/
theorem WP_cutQ {P : Program} {N : Fm} {x : Code} {env : Env} {st : List AO} {Q : Post} {α : Type} (E : α → Env) (S : α → List AO) (h : WP P N x env st (Then (fun env st => ∃ a, Sub N env st (E a) (S a)) Q))
    (k : ∀ a env st, Sub N env st (E a) (S a) → Q .normal env st) : WP P N x env st Q :=
  WP_mono h fun e env st q => by
    cases e with
    | normal => obtain ⟨a, hs⟩ := q; exact k a env st hs
    | _ => exact q

theorem Sub.le {N : Fm} {env : Env} {st : List AO} (t : Nat) {d d' : DV} (h : env t = .v d) (hle : DLe d d') : Sub N env st (upd env t (.v d')) st :=
  Sub.slot t _ fun w0 σ0 σ gh w u hb hu => by
    rw [h] at hu
    exact ⟨σ, gh, .refl hb, hle σ u hu⟩
/-- a row of one's own is given out, as a list -/
theorem Sub.shutT {N : Fm} {env : Env} {st : List AO} (t : Nat) {s k n e sz : Nat} {α : Type} (enc : α → List D) (z : α) (xs : List α) (h : env t = .h s k 0 n) (hst : st[s]? = some (.row k e sz (xs.map enc))) (hn : n = xs.length) :
    Sub N env st (upd env t (.d (.tl α sz enc z xs))) (st.set s .gone) := by
  have h1 := Sub.shut (N := N) t s k n e sz (xs.map enc) h hst (by rw [hn, List.length_map])
  have h2 := Sub.le (N := N) (env := upd env t (.list sz (xs.map enc))) (st := st.set s .gone) t (d := .one (.list sz (xs.map enc))) (d' := .one (.tl α sz enc z xs)) (upd_same _ _ _) (DLe.tl z rfl)
  have h3 := h1.trans h2
  have : upd (upd env t (.list sz (xs.map enc))) t (.v (.one (.tl α sz enc z xs))) = upd env t (.d (.tl α sz enc z xs)) := by
    funext i
    unfold upd
    split <;> rfl
  rwa [this] at h3
end Go.Proofs.Nw.K
end
section
/- Q8: a version's words; two versions. -/
open Go Go.RowKit Go.Proofs
set_option linter.unusedVariables false
set_option linter.unusedSimpArgs false
namespace Go.Proofs.Nw.K

def wordOf (p : Pt) : Wd := if !(p.text.toList == emp.toList) && !digitB (byteAt p.text 0) then lettersOf p else if (trim0 p.text).toList == emp.toList then ⟨6, emp⟩ else if p.dash then ⟨9, trim0 p.text⟩ else ⟨10, trim0 p.text⟩

theorem size_pos {s : Str} (h : (!(s.toList == emp.toList)) = true) : 0 < s.size := by
  rcases Nat.eq_zero_or_pos s.size with h0 | h0
  · have : s = emp := by
      apply str_ext
      have := str_size s
      rw [h0] at this
      exact List.length_eq_zero_iff.1 this.symm
    rw [this] at h
    simp at h
  · exact h0

theorem partWord_impl (p : Pt) (hp : p.text.size ≤ maxLen) : Impl Tryd.prog 57 [.agg (encPt p)] [.agg (encWd (wordOf p))] := by
  refine impl_c tabOk Tryd.func57 rfl rfl (by kernel_rfl) (by kernel_rfl) ?_
  have rest : (!(p.text.toList == emp.toList) && !digitB (byteAt p.text 0)) = false → wordOf p = if (trim0 p.text).toList == emp.toList then ⟨6, emp⟩ else if p.dash then ⟨9, trim0 p.text⟩ else ⟨10, trim0 p.text⟩ := fun h => by unfold wordOf; rw [h]; rfl
  repeat (first | refine Ob.mk (by first | rfl | omega | assumption) ?_ | refine Br.t ?_ | refine Br.f ?_ | refine vcc_sound _ _ _ tabOk (by exact rfl) ?_)
  refine Br.mk (fun (h : (!(p.text.toList == emp.toList)) = true) => ?_) (fun (h : (!(p.text.toList == emp.toList)) = false) => ?_)
  · have hs := size_pos h
    repeat (first | refine Ob.mk (by first | rfl | omega | assumption) ?_ | refine Br.t ?_ | refine Br.f ?_ | refine vcc_sound _ _ _ tabOk (by exact rfl) ?_)
    refine CallD.of (Digit_impl (byteAt p.text 0)) ?_
    repeat (first | refine Ob.mk (by first | rfl | omega | assumption) ?_ | refine Br.t ?_ | refine Br.f ?_ | refine vcc_sound _ _ _ tabOk (by exact rfl) ?_)
    refine Br.mk (fun (h2 : (!digitB (byteAt p.text 0)) = true) => ?_) (fun (h2 : (!digitB (byteAt p.text 0)) = false) => ?_)
    · repeat (first | refine Ob.mk (by first | rfl | omega | assumption) ?_ | refine Br.t ?_ | refine Br.f ?_ | refine vcc_sound _ _ _ tabOk (by exact rfl) ?_)
      repeat (first | refine Ob.mk (by first | rfl | omega | assumption) ?_ | refine Br.t ?_ | refine Br.f ?_ | refine vcc_sound _ _ _ tabOk (by exact rfl) ?_)
      refine CallD.of (letters_impl p) ?_
      repeat (first | refine Ob.mk (by first | rfl | omega | assumption) ?_ | refine Br.t ?_ | refine Br.f ?_ | refine vcc_sound _ _ _ tabOk (by exact rfl) ?_)
      refine And.intro (DLe.of_eq ?_) trivial
      unfold wordOf
      rw [h, h2]; rfl
    · have hr := rest (by rw [h, h2]; rfl)
      repeat (first | refine Ob.mk (by first | rfl | omega | assumption) ?_ | refine Br.t ?_ | refine Br.f ?_ | refine vcc_sound _ _ _ tabOk (by exact rfl) ?_)
      refine CallD.of (TrimLeft_impl p.text hp) ?_
      repeat (first | refine Ob.mk (by first | rfl | omega | assumption) ?_ | refine Br.t ?_ | refine Br.f ?_ | refine vcc_sound _ _ _ tabOk (by exact rfl) ?_)
      refine Br.mk (fun (h3 : ((trim0 p.text).toList == emp.toList) = true) => ?_) (fun (h3 : ((trim0 p.text).toList == emp.toList) = false) => ?_)
      · repeat (first | refine Ob.mk (by first | rfl | omega | assumption) ?_ | refine Br.t ?_ | refine Br.f ?_ | refine vcc_sound _ _ _ tabOk (by exact rfl) ?_)
        repeat (first | refine Ob.mk (by first | rfl | omega | assumption) ?_ | refine Br.t ?_ | refine Br.f ?_ | refine vcc_sound _ _ _ tabOk (by exact rfl) ?_)
        refine And.intro (DLe.of_eq ?_) trivial
        rw [hr, h3]; rfl
      · repeat (first | refine Ob.mk (by first | rfl | omega | assumption) ?_ | refine Br.t ?_ | refine Br.f ?_ | refine vcc_sound _ _ _ tabOk (by exact rfl) ?_)
        repeat (first | refine Ob.mk (by first | rfl | omega | assumption) ?_ | refine Br.t ?_ | refine Br.f ?_ | refine vcc_sound _ _ _ tabOk (by exact rfl) ?_)
        refine Br.mk (fun (h4 : (p.dash) = true) => ?_) (fun (h4 : (p.dash) = false) => ?_)
        · repeat (first | refine Ob.mk (by first | rfl | omega | assumption) ?_ | refine Br.t ?_ | refine Br.f ?_ | refine vcc_sound _ _ _ tabOk (by exact rfl) ?_)
          repeat (first | refine Ob.mk (by first | rfl | omega | assumption) ?_ | refine Br.t ?_ | refine Br.f ?_ | refine vcc_sound _ _ _ tabOk (by exact rfl) ?_)
          refine And.intro (DLe.of_eq ?_) trivial
          rw [hr, h3, h4]; rfl
        · repeat (first | refine Ob.mk (by first | rfl | omega | assumption) ?_ | refine Br.t ?_ | refine Br.f ?_ | refine vcc_sound _ _ _ tabOk (by exact rfl) ?_)
          repeat (first | refine Ob.mk (by first | rfl | omega | assumption) ?_ | refine Br.t ?_ | refine Br.f ?_ | refine vcc_sound _ _ _ tabOk (by exact rfl) ?_)
          refine And.intro (DLe.of_eq ?_) trivial
          rw [hr, h3, h4]; rfl
  · have hr := rest (by rw [h]; rfl)
    repeat (first | refine Ob.mk (by first | rfl | omega | assumption) ?_ | refine Br.t ?_ | refine Br.f ?_ | refine vcc_sound _ _ _ tabOk (by exact rfl) ?_)
    refine CallD.of (TrimLeft_impl p.text hp) ?_
    repeat (first | refine Ob.mk (by first | rfl | omega | assumption) ?_ | refine Br.t ?_ | refine Br.f ?_ | refine vcc_sound _ _ _ tabOk (by exact rfl) ?_)
    refine Br.mk (fun (h3 : ((trim0 p.text).toList == emp.toList) = true) => ?_) (fun (h3 : ((trim0 p.text).toList == emp.toList) = false) => ?_)
    · repeat (first | refine Ob.mk (by first | rfl | omega | assumption) ?_ | refine Br.t ?_ | refine Br.f ?_ | refine vcc_sound _ _ _ tabOk (by exact rfl) ?_)
      repeat (first | refine Ob.mk (by first | rfl | omega | assumption) ?_ | refine Br.t ?_ | refine Br.f ?_ | refine vcc_sound _ _ _ tabOk (by exact rfl) ?_)
      refine And.intro (DLe.of_eq ?_) trivial
      rw [hr, h3]; rfl
    · repeat (first | refine Ob.mk (by first | rfl | omega | assumption) ?_ | refine Br.t ?_ | refine Br.f ?_ | refine vcc_sound _ _ _ tabOk (by exact rfl) ?_)
      repeat (first | refine Ob.mk (by first | rfl | omega | assumption) ?_ | refine Br.t ?_ | refine Br.f ?_ | refine vcc_sound _ _ _ tabOk (by exact rfl) ?_)
      refine Br.mk (fun (h4 : (p.dash) = true) => ?_) (fun (h4 : (p.dash) = false) => ?_)
      · repeat (first | refine Ob.mk (by first | rfl | omega | assumption) ?_ | refine Br.t ?_ | refine Br.f ?_ | refine vcc_sound _ _ _ tabOk (by exact rfl) ?_)
        repeat (first | refine Ob.mk (by first | rfl | omega | assumption) ?_ | refine Br.t ?_ | refine Br.f ?_ | refine vcc_sound _ _ _ tabOk (by exact rfl) ?_)
        refine And.intro (DLe.of_eq ?_) trivial
        rw [hr, h3, h4]; rfl
      · repeat (first | refine Ob.mk (by first | rfl | omega | assumption) ?_ | refine Br.t ?_ | refine Br.f ?_ | refine vcc_sound _ _ _ tabOk (by exact rfl) ?_)
        repeat (first | refine Ob.mk (by first | rfl | omega | assumption) ?_ | refine Br.t ?_ | refine Br.f ?_ | refine vcc_sound _ _ _ tabOk (by exact rfl) ?_)
        refine And.intro (DLe.of_eq ?_) trivial
        rw [hr, h3, h4]; rfl

def lastW (out : List Wd) : Wd := out.getD (out.length - 1) zWd
def keepB (out : List Wd) (w : Wd) : Bool := w.kind != 6 || (decide ((out.length : Int) > 0) && ((lastW out).kind == 6 || (lastW out).kind == 10))
def splitStep (out : List Wd) (p : Pt) : List Wd := if keepB out (wordOf p) then out ++ [wordOf p] else out
def splitRev (l : List Pt) : List Wd := l.reverse.foldl splitStep []
def splitOf (v : Str) : List Wd := (splitRev (partsOf (lowerOf v))).reverse

theorem splitRev_length (l : List Pt) : (splitRev l).length ≤ l.length := by
  have key : ∀ (l : List Pt) (o : List Wd), (l.foldl splitStep o).length ≤ o.length + l.length := by
    intro l
    induction l with
    | nil => intro o; simp
    | cons p r ih =>
      intro o
      have h1 := ih (splitStep o p)
      have h2 : (splitStep o p).length ≤ o.length + 1 := by unfold splitStep; split <;> simp
      simp only [List.foldl_cons, List.length_cons]
      omega
  have := key l.reverse []
  simpa [splitRev] using this
theorem partsOf_length (v : Str) : (partsOf v).length ≤ v.size + 1 := by
  have h := foldP_length v.data.toList v.data.toList.length
  rw [List.take_of_length_le (Nat.le_refl _)] at h
  have := str_size v
  unfold partsOf allP
  simp
  omega
theorem partsOf_text (v : Str) (p : Pt) (hp : p ∈ partsOf v) (hv : v.size ≤ maxLen) : p.text.size ≤ maxLen := by
  have key : ∀ (l : List UInt8) (q : List Pt × Pt) (n : Nat), (∀ p ∈ allP q, p.text.size ≤ n) → ∀ p ∈ allP (l.foldl stepP q), p.text.size ≤ n + l.length := by
    intro l
    induction l with
    | nil => intro q n h p hp; simpa using h p hp
    | cons b r ih =>
      intro q n h p hp
      have hb : (one b).size = 1 := rfl
      have := ih (stepP q b) (n + 1) (fun p hp => by
        unfold stepP at hp
        split at hp
        · simp only [allP, List.mem_append, List.mem_singleton] at hp
          rcases hp with (hp | rfl) | rfl
          · have := h p (by simp [allP, hp]); omega
          · have := h q.2 (by simp [allP]); omega
          · show (0 : Nat) ≤ _; omega
        · split at hp
          · simp only [allP, List.mem_append, List.mem_singleton] at hp
            rcases hp with (hp | rfl) | rfl
            · have := h p (by simp [allP, hp]); omega
            · have := h q.2 (by simp [allP]); show q.2.text.size ≤ _; omega
            · show (one b).size ≤ _; omega
          · simp only [allP, List.mem_append, List.mem_singleton] at hp
            rcases hp with hp | rfl
            · have := h p (by simp [allP, hp]); omega
            · have := h q.2 (by simp [allP])
              show (q.2.text ++ one b).size ≤ _
              rw [app_size]; omega) p hp
      simp only [List.length_cons]; omega
  have := key v.data.toList ([], zPt) 0 (fun p hp => by simp [allP] at hp; subst hp; exact Nat.le_refl _) p hp
  have h2 := str_size v
  omega
theorem splitRev_at (l : List Pt) (j : Nat) (h : j < l.length) : splitRev (l.drop j) = splitStep (splitRev (l.drop (j + 1))) l[j] := by
  unfold splitRev
  rw [List.drop_eq_getElem_cons h, List.reverse_cons, List.foldl_append]
  rfl

set_option maxHeartbeats 400000 in
theorem Split_impl (v : Str) (hv : v.size ≤ 4194303) : Impl Tryd.prog 36 [.one (dstr v)] [.one (dWds (splitOf v))] := by
  have hM : maxLen = 9223372036854775807 := rfl
  have hlow : (lowerOf v).size = v.size := lowerOf_size v
  have hpl := partsOf_length (lowerOf v)
  have htx : ∀ p ∈ partsOf (lowerOf v), p.text.size ≤ maxLen := fun p hp => partsOf_text _ _ hp (by omega)
  generalize hP : partsOf (lowerOf v) = ps at *
  have hout : ∀ j, (splitRev (ps.drop j)).length ≤ 4194305 := fun j => by have := splitRev_length (ps.drop j); simp at this; omega
  refine impl_c tabOk Tryd.func36 rfl rfl (by kernel_rfl) (by kernel_rfl) ?_
  repeat (first | refine Ob.mk (by first | rfl | omega | assumption) ?_ | refine Br.t ?_ | refine Br.f ?_ | refine vcc_sound _ _ _ tabOk (by exact rfl) ?_)
  refine WP_scope_cut (α := {x : Nat × Nat // x.1 ≤ ps.length}) 0 (fun x => ofL [(3, .h 0 x.1.2 0 (splitRev (ps.drop x.1.1)).length), (4, .d (dPts (ps.take x.1.1)))]) (fun x => [.row x.1.2 68 2 ((splitRev (ps.drop x.1.1)).map encWd)]) (fun x => x.1.1) (by rfl) (fun x => ?_) (fun again => ?_)
  rotate_left
  · repeat (first | refine Ob.mk (by first | rfl | omega | assumption) ?_ | refine Br.t ?_ | refine Br.f ?_ | refine vcc_sound _ _ _ tabOk (by exact rfl) ?_)
    repeat (first | refine Ob.mk (by first | rfl | omega | assumption) ?_ | refine Br.t ?_ | refine Br.f ?_ | refine vcc_sound _ _ _ tabOk (by exact rfl) ?_)
    refine CallD.of (Lower_impl v (by omega)) ?_
    repeat (first | refine Ob.mk (by first | rfl | omega | assumption) ?_ | refine Br.t ?_ | refine Br.f ?_ | refine vcc_sound _ _ _ tabOk (by exact rfl) ?_)
    refine CallD.of (hP ▸ parts_impl (lowerOf v) (by omega)) ?_
    repeat (first | refine Ob.mk (by first | rfl | omega | assumption) ?_ | refine Br.t ?_ | refine Br.f ?_ | refine vcc_sound _ _ _ tabOk (by exact rfl) ?_)
    refine again ⟨(ps.length, 0), Nat.le_refl _⟩ _ _ ((Sub.nilsRow 3 68 2 rfl).trans (Sub.ofL _ _ (Nat.zero_le _) ⟨?_, rfl, ?_, rfl, trivial⟩ ?_ rfl))
    · show AV.h 0 0 0 0 = AV.h 0 0 0 (splitRev (ps.drop ps.length)).length
      rw [List.drop_length]; rfl
    · show AV.d (dPts ps) = AV.d (dPts (ps.take ps.length))
      rw [List.take_length]
    · show [AO.row 0 68 2 []] = [AO.row 0 68 2 ((splitRev (ps.drop ps.length)).map encWd)]
      rw [List.drop_length]; rfl
  obtain ⟨⟨j, k⟩, hj⟩ := x
  have hj : j ≤ ps.length := hj
  dsimp only
  have hoj := hout j
  have hlen : (ps.take j).length = j := by rw [List.length_take]; omega
  repeat (first | refine Ob.mk (by first | rfl | omega | assumption) ?_ | refine Br.t ?_ | refine Br.f ?_ | refine vcc_sound _ _ _ tabOk (by exact rfl) ?_)
  refine Br.mk (fun h => ?_) (fun h => ?_)
  · have h0 : j = 0 := by rw [hlen] at h; have := eq_of_beq h; omega
    subst h0
    repeat (first | refine Ob.mk (by first | rfl | omega | assumption) ?_ | refine Br.t ?_ | refine Br.f ?_ | refine vcc_sound _ _ _ tabOk (by exact rfl) ?_)
    refine CallE.eff _ _ (reverse_eff k (splitRev (ps.drop 0)) (by have := splitRev_length (ps.drop 0); rw [List.drop_zero] at this ⊢; omega)) ?_
    repeat (first | refine Ob.mk (by first | rfl | omega | assumption) ?_ | refine Br.t ?_ | refine Br.f ?_ | refine vcc_sound _ _ _ tabOk (by exact rfl) ?_)
    refine Ob.mk ⟨rfl, rfl, by simp⟩ ?_
    refine And.intro (DLe.tl _ ?_) trivial
    show (splitRev (ps.drop 0)).reverse.map encWd = (splitOf v).map encWd
    unfold splitOf
    rw [hP]; rfl
  · have h0 : j ≠ 0 := fun e => by rw [hlen, e] at h; cases h
    obtain ⟨i, rfl⟩ : ∃ i, j = i + 1 := ⟨j - 1, by omega⟩
    have hi : i < ps.length := by omega
    have hstep := splitRev_at ps i hi
    have hg : (ps.take (i + 1)).getD (((ps.take (i + 1)).length : Int) - 1).toNat zPt = ps[i] := by
      rw [hlen, show (((i + 1 : Nat) : Int) - 1).toNat = i by omega, List.getD_eq_getElem?_getD, List.getElem?_take_of_lt (by omega), List.getElem?_eq_getElem hi]; rfl
    have ht := htx ps[i] (List.getElem_mem hi)
    generalize splitRev (ps.drop (i + 1)) = out at *
    generalize ps[i] = p at *
    have hlz : ((ps.take (i + 1)).length : Int) = (i : Int) + 1 := by rw [hlen]; omega
    repeat (first | refine Ob.mk (by first | rfl | omega | assumption) ?_ | refine Br.t ?_ | refine Br.f ?_ | refine vcc_sound _ _ _ tabOk (by exact rfl) ?_)
    refine CallD.mk _ _ (partWord_impl p ht) (⟨DLe.of_eq (congrArg (fun q => DV.agg (encPt q)) hg), trivial⟩) ?_
    repeat (first | refine Ob.mk (by first | rfl | omega | assumption) ?_ | refine Br.t ?_ | refine Br.f ?_)
    refine vcc_sound _ _ _ tabOk (by kernel_rfl) ?_
    repeat (first | refine Ob.mk (by first | rfl | omega | assumption) ?_ | refine Br.t ?_ | refine Br.f ?_)
    refine WP_sub (env' := ofL [(3, .h 0 k 0 out.length), (4, .d (dPts (ps.take i))), (5, .ptr 1 0)]) (st' := [.row k 68 2 (out.map encWd), .box 68 [.d (dint (wordOf p).kind), .d (dstr (wordOf p).text)]]) ?_ ?_
    · refine Sub.ofL _ _ (Nat.zero_le _) ⟨rfl, rfl, ?_, rfl, rfl, rfl, trivial⟩ rfl rfl
      show AV.d (dPts (((ps.take (i + 1)).take (((ps.take (i + 1)).length : Int) - 1).toNat).drop 0)) = _
      rw [hlen, show (((i + 1 : Nat) : Int) - 1).toNat = i by omega, List.take_take, List.drop_zero, Nat.min_eq_left (by omega)]
    have hst : splitStep out p = if keepB out (wordOf p) then out ++ [wordOf p] else out := rfl
    generalize wordOf p = w at *
    refine WP_seq (WP_seq_cut (α := Unit) (fun _ => ofL [(3, .h 0 k 0 out.length), (4, .d (dPts (ps.take i))), (5, .ptr 1 0), (54, .bool (keepB out w))]) (fun _ => [.row k 68 2 (out.map encWd), .box 68 [.d (dint w.kind), .d (dstr w.text)]]) (vcc_sound _ _ _ tabOk (by kernel_rfl) ?_) (fun _ => ?_))
    · have fin : ∀ (b : Bool) env st, keepB out w = b → env 3 = .h 0 k 0 out.length → env 4 = .d (dPts (ps.take i)) → env 5 = .ptr 1 0 → env 54 = .bool b → st = [.row k 68 2 (out.map encWd), .box 68 [.d (dint w.kind), .d (dstr w.text)]] → ∃ _ : Unit, Sub ⟨Tryd.f36.ntmps, 0⟩ env st (ofL [(3, .h 0 k 0 out.length), (4, .d (dPts (ps.take i))), (5, .ptr 1 0), (54, .bool (keepB out w))]) [.row k 68 2 (out.map encWd), .box 68 [.d (dint w.kind), .d (dstr w.text)]] := fun b env st hb h3 h4 h5 h54 hs =>
        ⟨(), Sub.ofL _ _ (Nat.zero_le _) ⟨h3, rfl, h4, rfl, h5, rfl, by rw [h54, hb], rfl, trivial⟩ (by rw [hs]; rfl) rfl⟩
      repeat (first | refine Ob.mk (by first | rfl | omega | assumption) ?_ | refine Br.t ?_ | refine Br.f ?_ | refine vcc_sound _ _ _ tabOk (by exact rfl) ?_)
      refine Br.mk (fun (h6 : (w.kind != 6) = true) => ?_) (fun (h6 : (w.kind != 6) = false) => ?_)
      · repeat (first | refine Ob.mk (by first | rfl | omega | assumption) ?_ | refine Br.t ?_ | refine Br.f ?_)
        refine fin true _ _ (by unfold keepB; rw [h6]; rfl) rfl rfl rfl rfl rfl
      repeat (first | refine Ob.mk (by first | rfl | omega | assumption) ?_ | refine Br.t ?_ | refine Br.f ?_)
      repeat (first | refine Ob.mk (by first | rfl | omega | assumption) ?_ | refine Br.t ?_ | refine Br.f ?_ | refine vcc_sound _ _ _ tabOk (by exact rfl) ?_)
      refine Br.mk (fun (hl : (decide ((out.length : Int) > 0)) = true) => ?_) (fun (hl : (decide ((out.length : Int) > 0)) = false) => ?_)
      rotate_left
      · repeat (first | refine Ob.mk (by first | rfl | omega | assumption) ?_ | refine Br.t ?_ | refine Br.f ?_)
        refine fin false _ _ (by unfold keepB; rw [h6, hl]; rfl) rfl rfl rfl rfl rfl
      have hpos := of_decide_eq_true hl
      have hrow : (out.map encWd)[((out.length : Int) - 1).toNat]? = some (encWd (lastW out)) := by
        rw [show ((out.length : Int) - 1).toNat = out.length - 1 by omega, List.getElem?_map, List.getElem?_eq_getElem (by omega)]
        unfold lastW
        rw [List.getD_eq_getElem?_getD, List.getElem?_eq_getElem (by omega)]; rfl
      repeat (first | refine Ob.mk (by first | rfl | omega | assumption) ?_ | refine Br.t ?_ | refine Br.f ?_ | refine vcc_sound _ _ _ tabOk (by exact rfl) ?_)
      refine RowAt.mk _ (hrow) ?_
      repeat (first | refine Ob.mk (by first | rfl | omega | assumption) ?_ | refine Br.t ?_ | refine Br.f ?_ | refine vcc_sound _ _ _ tabOk (by exact rfl) ?_)
      refine Br.mk (fun (ha : ((lastW out).kind == 6) = true) => ?_) (fun (ha : ((lastW out).kind == 6) = false) => ?_)
      · repeat (first | refine Ob.mk (by first | rfl | omega | assumption) ?_ | refine Br.t ?_ | refine Br.f ?_)
        refine fin true _ _ (by unfold keepB; rw [hl, ha]; simp) rfl rfl rfl rfl rfl
      repeat (first | refine Ob.mk (by first | rfl | omega | assumption) ?_ | refine Br.t ?_ | refine Br.f ?_ | refine vcc_sound _ _ _ tabOk (by exact rfl) ?_)
      refine RowAt.mk _ (hrow) ?_
      repeat (first | refine Ob.mk (by first | rfl | omega | assumption) ?_ | refine Br.t ?_ | refine Br.f ?_)
      refine fin ((lastW out).kind == 10) _ _ (by unfold keepB; rw [h6, hl, ha]; simp) rfl rfl rfl rfl rfl
    have out2 : ∀ (k' : Nat) (o : List Wd) env st, o = splitStep out p → env 3 = .h 0 k' 0 o.length → env 4 = .d (dPts (ps.take i)) → st.take 1 = [.row k' 68 2 (o.map encWd)] → ∃ x' : {x : Nat × Nat // x.1 ≤ ps.length}, x'.1.1 < i + 1 ∧ Sub ⟨Tryd.f36.ntmps, 0⟩ env st (ofL [(3, .h 0 x'.1.2 0 (splitRev (ps.drop x'.1.1)).length), (4, .d (dPts (ps.take x'.1.1)))]) [.row x'.1.2 68 2 ((splitRev (ps.drop x'.1.1)).map encWd)] := fun k' o env st ho h3 h4 hs =>
      ⟨⟨(i, k'), by omega⟩, Nat.lt_succ_self _, Sub.ofL _ _ (Nat.zero_le _) ⟨by rw [h3, ho, ← hstep], rfl, h4, rfl, trivial⟩ (by show st.take 1 = _; rw [hs, ho, ← hstep]) rfl⟩
    repeat (first | refine Ob.mk (by first | rfl | omega | assumption) ?_ | refine Br.t ?_ | refine Br.f ?_ | refine vcc_sound _ _ _ tabOk (by exact rfl) ?_)
    refine Br.mk (fun (hk : (keepB out w) = true) => ?_) (fun (hk : (keepB out w) = false) => ?_)
    · repeat (first | refine Ob.mk (by first | rfl | omega | assumption) ?_ | refine Br.t ?_ | refine Br.f ?_ | refine vcc_sound _ _ _ tabOk (by exact rfl) ?_)
      refine NewS.list ?_
      repeat (first | refine Ob.mk (by first | rfl | omega | assumption) ?_ | refine Br.t ?_ | refine Br.f ?_ | refine vcc_sound _ _ _ tabOk (by exact rfl) ?_)
      refine AppK.whole (by simp) ?_
      repeat (first | refine Ob.mk (by first | rfl | omega | assumption) ?_ | refine Br.t ?_ | refine Br.f ?_ | refine vcc_sound _ _ _ tabOk (by exact rfl) ?_)
      have hso : out ++ [w] = splitStep out p := by rw [hst, hk]; rfl
      exact ⟨rfl, out2 (k + 1) (out ++ [w]) _ _ hso (by show AV.h 0 (k + 1) 0 (out.length + 1) = _; rw [List.length_append]; rfl) rfl (by show [AO.row (k + 1) 68 2 (out.map encWd ++ [[dint w.kind, dstr w.text]])] = _; rw [List.map_append]; rfl)⟩
    · repeat (first | refine Ob.mk (by first | rfl | omega | assumption) ?_ | refine Br.t ?_ | refine Br.f ?_ | refine vcc_sound _ _ _ tabOk (by exact rfl) ?_)
      have hso : out = splitStep out p := by rw [hst, hk]; rfl
      exact ⟨rfl, out2 k out _ _ hso rfl rfl rfl⟩

end Go.Proofs.Nw.K
end
