import Derived.Test.YtjfpnnmagnljnaaNwC12
import Derived.Test.YtjfpnnmagnljnaaNwK24
import Derived.Shelf.SlSortCmp.NoneTotal
open Go Go.RowKit Go.Proofs
set_option linter.unusedVariables false
set_option linter.unusedSimpArgs false
namespace Go.Proofs.Nw.K

theorem props_impl (l : List Pair) (hl : l.length ≤ 4194304) : Impl Try.prog 49 [.one (dPairs l)] [.one (dPairs (propsOf l))] :=
  props_impl0 l hl fun p cap fv w => AnyF.slices_SortFunc_none Try.sortProp p cap fv w

def packOf (p : Pom) : Str := orOf [p.packaging, jar]
def nameTo (l : List Pom) (i : Nat) : Str := match l.take i with | [] => emp | x :: _ => x.name
def packTo (l : List Pom) (i : Nat) : Str := match l.take i with | [] => jar | x :: _ => packOf x
def propsIn (l : List Pom) : List Pair := l.flatMap Pom.props
def managedIn (l : List Pom) : List Dep := l.flatMap Pom.managed
def depsIn (l : List Pom) : List Dep := l.flatMap Pom.deps

def merged (c : Coord) (l : List Pom) : Pom := ⟨zCoord, c.group, nameTo l l.length, c.version, packTo l l.length, propsOf (propsIn l), firstOf (managedIn l), firstOf (depsIn l)⟩
def mergeBig (p : Pom) : Bool := decide ((p.props.length : Int) > 100) || decide ((p.managed.length : Int) > 200) || decide ((p.deps.length : Int) > 200)
def mergeOf (c : Coord) (l : List Pom) : Pom := if mergeBig (merged c l) then zPom else merged c l
def mergeErr (c : Coord) (l : List Pom) : Int := if mergeBig (merged c l) then 3 else 0

theorem flat_succ {α : Type} (f : Pom → List α) (l : List Pom) (i : Nat) (h : i < l.length) : (l.take (i + 1)).flatMap f = (l.take i).flatMap f ++ f l[i] := by
  rw [List.take_succ_eq_append_getElem h, List.flatMap_append]; simp only [List.flatMap_cons, List.flatMap_nil, List.append_nil]
theorem flat_take {α : Type} (f : Pom → List α) (l : List Pom) (i : Nat) : ((l.take i).flatMap f).length ≤ (l.flatMap f).length := by
  have : l.flatMap f = (l.take i).flatMap f ++ (l.drop i).flatMap f := by rw [← List.flatMap_append, List.take_append_drop]
  rw [this]; simp

def mBox (c : Coord) (l : List Pom) (j i : Nat) : AO := .box 55 [.d (dstr emp), .d (dstr emp), .d (dstr emp), .d (dstr c.group), .d (dstr (nameTo l j)), .d (dstr c.version), .d (dstr (packTo l j)), .h 3 i 0 (propsIn (l.take i)).length, .h 4 i 0 (managedIn (l.take i)).length, .h 5 i 0 (depsIn (l.take i)).length]
def mObs (c : Coord) (l : List Pom) (j i : Nat) : List AO := [.box 23 ((encCoord c).map AV.d), .box 55 [.d (dstr emp), .d (dstr emp), .d (dstr emp), .d (dstr emp), .d (dstr emp), .d (dstr emp), .d (dstr emp), .nils, .nils, .nils], mBox c l j i,
  .row i 66 2 ((propsIn (l.take i)).map encPair), .row i 35 8 ((managedIn (l.take i)).map encDep), .row i 35 8 ((depsIn (l.take i)).map encDep)]

theorem nameTo_one (l : List Pom) (h : 0 < l.length) : nameTo l 1 = l[0].name ∧ packTo l 1 = packOf l[0] := by
  cases l with
  | nil => simp at h
  | cons x r => exact ⟨rfl, rfl⟩
theorem nameTo_more (l : List Pom) (i : Nat) (h : i < l.length) (h0 : i ≠ 0) : nameTo l (i + 1) = nameTo l i ∧ packTo l (i + 1) = packTo l i := by
  cases l with
  | nil => simp at h
  | cons x r =>
    cases i with
    | zero => exact absurd rfl h0
    | succ i => exact ⟨rfl, rfl⟩

theorem Merge_impl (c : Coord) (l : List Pom) (hl : l.length ≤ 4194304) (hP : (propsIn l).length ≤ 4194304) (hM : (managedIn l).length ≤ 4194304) (hMw : ∀ d ∈ managedIn l, d.wt ≤ 4194304) (hD : (depsIn l).length ≤ 4194304) (hDw : ∀ d ∈ depsIn l, d.wt ≤ 4194304) :
    Impl Try.prog 26 [.agg (encCoord c), .one (dPoms l)] [.agg (encPom (mergeOf c l)), .one (dint (mergeErr c l))] := by
  refine impl_vc tabOk Try.func26 rfl rfl (by exact Nat.le_of_ble_eq_true rfl) ?_
  refine WP_seq (vc_sound tabOk (by kernel_rfl) ?_)
  refine WP_seq (vc_sound tabOk (by kernel_rfl) ?_)
  refine And.intro rfl (And.intro (Nat.le_of_ble_eq_true rfl) ?_)
  refine WP_seq_cut (α := Unit) (fun _ => ofL [(4, .ptr 1 0), (5, .int 0), (6, .ptr 2 0)]) (fun _ => mObs c l l.length l.length) (WP_seq (vc_sound tabOk (by kernel_rfl) ?_)) (fun _ => ?_)
  · refine WP_block (WP_loop (α := {i : Nat // i ≤ l.length}) (fun i => ofL [(4, .ptr 1 0), (5, .int 0), (6, .ptr 2 0), (14, .d (dPoms l)), (15, .int (l.length : Int)), (16, .int (i.1 : Int))]) (fun i => mObs c l i.1 i.1) (fun i => l.length - i.1) ⟨0, Nat.zero_le _⟩ ?_ ?_)
    · exact (Sub.nilsCell (s := 2) (i := 7) 66 2 rfl rfl).trans ((Sub.nilsCell (s := 2) (i := 8) 35 8 rfl rfl).trans ((Sub.nilsCell (s := 2) (i := 9) 35 8 rfl rfl).trans
        (Sub.ofL _ _ (Nat.zero_le _) ⟨rfl, rfl, rfl, rfl, rfl, rfl, rfl, rfl, rfl, rfl, rfl, rfl, trivial⟩ rfl rfl)))
    rintro ⟨i, hi⟩
    have hp1 := flat_take Pom.props l i
    refine WP_seq (vc_sound tabOk (by kernel_rfl) ?_)
    refine And.intro rfl ?_
    refine WP_seq (WP_cond rfl (fun h => WP_skip ?_) (fun h => WP_exit ?_))
    rotate_left
    · have h : decide ((i : Int) < (l.length : Int)) = false := h
      obtain rfl : i = l.length := by have := of_decide_eq_false h; omega
      exact ⟨(), Sub.ofL _ _ (Nat.zero_le _) ⟨rfl, rfl, rfl, rfl, rfl, rfl, trivial⟩ rfl rfl⟩
    have h : decide ((i : Int) < (l.length : Int)) = true := h
    have hlt : i < l.length := by have := of_decide_eq_true h; omega
    have hg : l.getD ((i : Int)).toNat zPom = l[i] := by simp [List.getD, hlt]
    have eP := flat_succ Pom.props l i hlt
    have eM := flat_succ Pom.managed l i hlt
    have eD := flat_succ Pom.deps l i hlt
    have bP := flat_take Pom.props l (i + 1)
    have bM := flat_take Pom.managed l (i + 1)
    have bD := flat_take Pom.deps l (i + 1)
    rw [eP, List.length_append] at bP
    rw [eM, List.length_append] at bM
    rw [eD, List.length_append] at bD
    refine WP_seq (WP_block (WP_seq (vc_sound tabOk (by kernel_rfl) ?_)))
    refine And.intro rfl (And.intro (Int.natCast_nonneg _) (And.intro (by show (i : Int) < (l.length : Int); omega) ?_))
    refine And.intro (Nat.le_of_ble_eq_true rfl) ?_
    refine And.intro rfl (And.intro (Nat.le_of_ble_eq_true rfl) ?_)
    generalize hx : l.getD ((i : Int)).toNat zPom = x at *
    subst hg
    refine WP_sub (Sub.ofL [(4, .ptr 1 0), (5, .int 0), (6, .ptr 2 0), (7, .int (i : Int)), (8, .ptr 6 0), (14, .d (dPoms l)), (15, .int (l.length : Int)), (16, .int (i : Int))] (mObs c l i i ++ [AO.box 55 ((encPom l[i]).map AV.d)]) (Nat.zero_le _) ⟨rfl, rfl, rfl, rfl, rfl, rfl, rfl, rfl, rfl, rfl, rfl, rfl, rfl, rfl, rfl, rfl, trivial⟩ ?_ rfl) ?_
    · rfl
    refine WP_seq_cut (α := Unit) (fun _ => ofL [(4, .ptr 1 0), (5, .int 0), (6, .ptr 2 0), (8, .ptr 6 0), (14, .d (dPoms l)), (15, .int (l.length : Int)), (16, .int (i : Int))]) (fun _ => mObs c l (i + 1) i ++ [AO.box 55 ((encPom l[i]).map AV.d)]) (WP_seq (vc_sound tabOk (by kernel_rfl) ?_)) (fun _ => ?_)
    · refine And.intro rfl ?_
      refine WP_cond rfl (fun h0 => ?_) (fun h0 => vc_sound tabOk (by kernel_rfl) ?_)
      · have h0 : ((i : Int) == 0) = true := h0
        obtain rfl : i = 0 := by simpa using h0
        obtain ⟨n1, n2⟩ := nameTo_one l hlt
        refine vc_draw2 tabOk 7 (by kernel_rfl) ?_
        refine And.intro rfl (And.intro rfl (And.intro rfl (And.intro rfl ?_)))
        refine And.intro rfl (And.intro (by decide) (And.intro (by decide) (And.intro rfl (Or.inl (And.intro rfl ?_)))))
        refine And.intro rfl (Exists.intro _ (Exists.intro _ (And.intro (Or_impl [l[0].packaging, jar] (Nat.le_of_ble_eq_true rfl)) (And.intro (And.intro (DLe.tl emp rfl) trivial) (And.intro rfl ?_)))))
        refine And.intro rfl ?_
        refine And.intro rfl (And.intro (Nat.le_of_ble_eq_true rfl) ?_)
        refine And.intro rfl (And.intro (Nat.le_of_ble_eq_true rfl) ?_)
        refine ⟨(), Sub.ofL _ _ (Nat.zero_le _) ⟨rfl, rfl, rfl, rfl, rfl, rfl, rfl, rfl, rfl, rfl, rfl, rfl, rfl, rfl, trivial⟩ ?_ rfl⟩
        simp only [mObs, mBox, n1, n2, Nat.zero_add]; rfl
      · have h0 : ((i : Int) == 0) = false := h0
        obtain ⟨n1, n2⟩ := nameTo_more l i hlt (fun e => by subst e; simp at h0)
        refine ⟨(), Sub.ofL _ _ (Nat.zero_le _) ⟨rfl, rfl, rfl, rfl, rfl, rfl, rfl, rfl, rfl, rfl, rfl, rfl, rfl, rfl, trivial⟩ ?_ rfl⟩
        simp only [mObs, mBox, n1, n2]; rfl
    refine vc_draw3 tabOk 16 [false, false, false, false, true, false, false, false, false, true, false, false, false, false, true, false]
      [(mObs c l (i + 1) i ++ [AO.box 55 ((encPom l[i]).map AV.d)]).set 3 (.row (i + 1) 66 2 (((propsIn (l.take i)).map encPair).take (propsIn (l.take i)).length ++ l[i].props.map encPair)),
       ((mObs c l (i + 1) i ++ [AO.box 55 ((encPom l[i]).map AV.d)]).set 3 (.row (i + 1) 66 2 (((propsIn (l.take i)).map encPair).take (propsIn (l.take i)).length ++ l[i].props.map encPair))).set 4 (.row (i + 1) 35 8 (((managedIn (l.take i)).map encDep).take (managedIn (l.take i)).length ++ l[i].managed.map encDep)),
       (((mObs c l (i + 1) i ++ [AO.box 55 ((encPom l[i]).map AV.d)]).set 3 (.row (i + 1) 66 2 (((propsIn (l.take i)).map encPair).take (propsIn (l.take i)).length ++ l[i].props.map encPair))).set 4 (.row (i + 1) 35 8 (((managedIn (l.take i)).map encDep).take (managedIn (l.take i)).length ++ l[i].managed.map encDep))).set 5 (.row (i + 1) 35 8 (((depsIn (l.take i)).map encDep).take (depsIn (l.take i)).length ++ l[i].deps.map encDep))] (by kernel_rfl) ?_
    refine And.intro rfl (And.intro (And.intro (And.intro rfl rfl) (And.intro (And.intro rfl rfl) (And.intro (And.intro rfl rfl) (And.intro (And.intro rfl rfl) trivial)))) ?_)
    refine And.intro rfl (And.intro (And.intro (And.intro rfl rfl) (And.intro (And.intro rfl rfl) (And.intro (And.intro rfl rfl) (And.intro (And.intro rfl rfl) trivial)))) ?_)
    refine And.intro rfl (And.intro (And.intro (And.intro rfl rfl) (And.intro (And.intro rfl rfl) (And.intro (And.intro rfl rfl) (And.intro (And.intro rfl rfl) trivial)))) ?_)
    refine And.intro rfl (And.intro (And.intro (And.intro rfl rfl) (And.intro (And.intro rfl rfl) (And.intro (And.intro rfl rfl) (And.intro (And.intro rfl rfl) trivial)))) ?_)
    refine And.intro rfl (And.intro ⟨rfl, rfl, rfl, rfl⟩ (And.intro rfl (And.intro ?_ (And.intro ?_ (And.intro rfl ?_)))))
    · simp only [List.length_map]; simp only [propsIn] at *; omega
    · simp only [List.length_map, maxLen]; simp only [propsIn] at *; omega
    refine And.intro rfl (And.intro (And.intro (And.intro rfl rfl) (And.intro (And.intro rfl rfl) (And.intro (And.intro rfl rfl) (And.intro (And.intro rfl rfl) trivial)))) ?_)
    refine And.intro rfl (And.intro (And.intro (And.intro rfl rfl) (And.intro (And.intro rfl rfl) (And.intro (And.intro rfl rfl) (And.intro (And.intro rfl rfl) trivial)))) ?_)
    refine And.intro rfl (And.intro (And.intro (And.intro rfl rfl) (And.intro (And.intro rfl rfl) (And.intro (And.intro rfl rfl) (And.intro (And.intro rfl rfl) trivial)))) ?_)
    refine And.intro rfl (And.intro (And.intro (And.intro rfl rfl) (And.intro (And.intro rfl rfl) (And.intro (And.intro rfl rfl) (And.intro (And.intro rfl rfl) trivial)))) ?_)
    refine And.intro rfl (And.intro ⟨rfl, rfl, rfl, rfl⟩ (And.intro rfl (And.intro ?_ (And.intro ?_ (And.intro rfl ?_)))))
    · simp only [List.length_map]; simp only [managedIn] at *; omega
    · simp only [List.length_map, maxLen]; simp only [managedIn] at *; omega
    refine And.intro rfl (And.intro (And.intro (And.intro rfl rfl) (And.intro (And.intro rfl rfl) (And.intro (And.intro rfl rfl) (And.intro (And.intro rfl rfl) trivial)))) ?_)
    refine And.intro rfl (And.intro (And.intro (And.intro rfl rfl) (And.intro (And.intro rfl rfl) (And.intro (And.intro rfl rfl) (And.intro (And.intro rfl rfl) trivial)))) ?_)
    refine And.intro rfl (And.intro (And.intro (And.intro rfl rfl) (And.intro (And.intro rfl rfl) (And.intro (And.intro rfl rfl) (And.intro (And.intro rfl rfl) trivial)))) ?_)
    refine And.intro rfl (And.intro (And.intro (And.intro rfl rfl) (And.intro (And.intro rfl rfl) (And.intro (And.intro rfl rfl) (And.intro (And.intro rfl rfl) trivial)))) ?_)
    refine And.intro rfl (And.intro ⟨rfl, rfl, rfl, rfl⟩ (And.intro rfl (And.intro ?_ (And.intro ?_ (And.intro rfl ?_)))))
    · simp only [List.length_map]; simp only [depsIn] at *; omega
    · simp only [List.length_map, maxLen]; simp only [depsIn] at *; omega
    refine And.intro rfl (And.intro (And.intro (And.intro rfl rfl) (And.intro (And.intro rfl rfl) (And.intro (And.intro rfl rfl) (And.intro (And.intro rfl rfl) trivial)))) ?_)
    refine Or.inl ?_
    refine And.intro ⟨_, _, _, rfl⟩ (And.intro (Nat.le_of_ble_eq_true rfl) ?_)
    refine Or.inl ?_
    refine And.intro ⟨_, _, _, rfl⟩ (And.intro (Nat.le_of_ble_eq_true rfl) ?_)
    refine Or.inl ?_
    refine And.intro ⟨_, _, _, rfl⟩ (And.intro (Nat.le_of_ble_eq_true rfl) ?_)
    refine vc_sound tabOk (by kernel_rfl) ?_
    refine And.intro rfl (And.intro ⟨by omega, by show (i : Int) + 1 ≤ _; omega⟩ ?_)
    refine ⟨⟨i + 1, hlt⟩, by show l.length - (i + 1) < l.length - i; omega, Sub.ofL _ _ (Nat.zero_le _) ⟨rfl, rfl, rfl, rfl, rfl, rfl, rfl, rfl, rfl, rfl, rfl, rfl, trivial⟩ ?_ rfl⟩
    have t1 : ((propsIn (l.take i)).map encPair).take (propsIn (l.take i)).length = (propsIn (l.take i)).map encPair := List.take_of_length_le (by rw [List.length_map]; exact Nat.le_refl _)
    have t2 : ((managedIn (l.take i)).map encDep).take (managedIn (l.take i)).length = (managedIn (l.take i)).map encDep := List.take_of_length_le (by rw [List.length_map]; exact Nat.le_refl _)
    have t3 : ((depsIn (l.take i)).map encDep).take (depsIn (l.take i)).length = (depsIn (l.take i)).map encDep := List.take_of_length_le (by rw [List.length_map]; exact Nat.le_refl _)
    have q1 : propsIn (l.take (i + 1)) = propsIn (l.take i) ++ l[i].props := eP
    have q2 : managedIn (l.take (i + 1)) = managedIn (l.take i) ++ l[i].managed := eM
    have q3 : depsIn (l.take (i + 1)) = depsIn (l.take i) ++ l[i].deps := eD
    simp only [mObs, mBox, q1, q2, q3, List.map_append, List.length_append]
    simp only [t1, t2, t3, List.length_map]
    rfl
  · have tl : l.take l.length = l := List.take_length
    have k1 := propsOf_length (propsIn l)
    have k2 := firstOf_length (managedIn l)
    have k3 := firstOf_length (depsIn l)
    have S0 : mObs c l l.length l.length = [.box 23 ((encCoord c).map AV.d), .box 55 [.d (dstr emp), .d (dstr emp), .d (dstr emp), .d (dstr emp), .d (dstr emp), .d (dstr emp), .d (dstr emp), .nils, .nils, .nils],
      .box 55 [.d (dstr emp), .d (dstr emp), .d (dstr emp), .d (dstr c.group), .d (dstr (nameTo l l.length)), .d (dstr c.version), .d (dstr (packTo l l.length)), .h 3 l.length 0 (propsIn l).length, .h 4 l.length 0 (managedIn l).length, .h 5 l.length 0 (depsIn l).length],
      .row l.length 66 2 ((propsIn l).map encPair), .row l.length 35 8 ((managedIn l).map encDep), .row l.length 35 8 ((depsIn l).map encDep)] := by
      simp only [mObs, mBox, tl]
    have hm : (⟨zCoord, c.group, nameTo l l.length, c.version, packTo l l.length, propsOf (propsIn l), firstOf (managedIn l), firstOf (depsIn l)⟩ : Pom) = merged c l := rfl
    rw [S0]
    generalize nameTo l l.length = nm, packTo l l.length = pk at *
    refine WP_seq (vc_draw3 tabOk 10 [false, false, true, false, false, true, false, false, true, false]
      [[.box 23 ((encCoord c).map AV.d), .box 55 [.d (dstr emp), .d (dstr emp), .d (dstr emp), .d (dstr emp), .d (dstr emp), .d (dstr emp), .d (dstr emp), .nils, .nils, .nils], .box 55 [.d (dstr emp), .d (dstr emp), .d (dstr emp), .d (dstr c.group), .d (dstr nm), .d (dstr c.version), .d (dstr pk), .h 3 l.length 0 (propsIn l).length, .h 4 l.length 0 (managedIn l).length, .h 5 l.length 0 (depsIn l).length], .gone, .row l.length 35 8 ((managedIn l).map encDep), .row l.length 35 8 ((depsIn l).map encDep)],
       [.box 23 ((encCoord c).map AV.d), .box 55 [.d (dstr emp), .d (dstr emp), .d (dstr emp), .d (dstr emp), .d (dstr emp), .d (dstr emp), .d (dstr emp), .nils, .nils, .nils], .box 55 [.d (dstr emp), .d (dstr emp), .d (dstr emp), .d (dstr c.group), .d (dstr nm), .d (dstr c.version), .d (dstr pk), .h 3 l.length 0 (propsIn l).length, .h 4 l.length 0 (managedIn l).length, .h 5 l.length 0 (depsIn l).length], .gone, .gone, .row l.length 35 8 ((depsIn l).map encDep)],
       [.box 23 ((encCoord c).map AV.d), .box 55 [.d (dstr emp), .d (dstr emp), .d (dstr emp), .d (dstr emp), .d (dstr emp), .d (dstr emp), .d (dstr emp), .nils, .nils, .nils], .box 55 [.d (dstr emp), .d (dstr emp), .d (dstr emp), .d (dstr c.group), .d (dstr nm), .d (dstr c.version), .d (dstr pk), .h 3 l.length 0 (propsIn l).length, .h 4 l.length 0 (managedIn l).length, .h 5 l.length 0 (depsIn l).length], .gone, .gone, .gone]] (by kernel_rfl) ?_)
    refine And.intro rfl (And.intro (And.intro (And.intro rfl rfl) (And.intro (And.intro rfl rfl) (And.intro (And.intro rfl rfl) (And.intro (And.intro rfl rfl) trivial)))) ?_)
    refine And.intro rfl (And.intro (And.intro (And.intro rfl rfl) (And.intro (And.intro rfl rfl) (And.intro (And.intro rfl rfl) (And.intro (And.intro rfl rfl) trivial)))) ?_)
    refine And.intro rfl (Or.inr (Or.inl (And.intro ⟨rfl, rfl, (List.length_map _).symm⟩ (Exists.intro _ (Exists.intro _ (And.intro (props_impl (propsIn l) hP) (And.intro (And.intro (DLe.tl zPair rfl) trivial) (And.intro rfl ?_))))))))
    refine And.intro rfl (And.intro (And.intro (And.intro rfl rfl) (And.intro (And.intro rfl rfl) (And.intro (And.intro rfl rfl) (And.intro (And.intro rfl rfl) trivial)))) ?_)
    refine And.intro rfl (And.intro (And.intro (And.intro rfl rfl) (And.intro (And.intro rfl rfl) (And.intro (And.intro rfl rfl) (And.intro (And.intro rfl rfl) trivial)))) ?_)
    refine And.intro rfl (Or.inr (Or.inl (And.intro ⟨rfl, rfl, (List.length_map _).symm⟩ (Exists.intro _ (Exists.intro _ (And.intro (First_impl (managedIn l) hM hMw) (And.intro (And.intro (DLe.tl zDep rfl) trivial) (And.intro rfl ?_))))))))
    refine And.intro rfl (And.intro (And.intro (And.intro rfl rfl) (And.intro (And.intro rfl rfl) (And.intro (And.intro rfl rfl) (And.intro (And.intro rfl rfl) trivial)))) ?_)
    refine And.intro rfl (And.intro (And.intro (And.intro rfl rfl) (And.intro (And.intro rfl rfl) (And.intro (And.intro rfl rfl) (And.intro (And.intro rfl rfl) trivial)))) ?_)
    refine And.intro rfl (Or.inr (Or.inl (And.intro ⟨rfl, rfl, (List.length_map _).symm⟩ (Exists.intro _ (Exists.intro _ (And.intro (First_impl (depsIn l) hD hDw) (And.intro (And.intro (DLe.tl zDep rfl) trivial) (And.intro rfl ?_))))))))
    refine And.intro rfl (And.intro (And.intro (And.intro rfl rfl) (And.intro (And.intro rfl rfl) (And.intro (And.intro rfl rfl) (And.intro (And.intro rfl rfl) trivial)))) ?_)
    refine And.intro rfl (And.intro (Nat.le_of_ble_eq_true rfl) ?_)
    refine And.intro rfl (And.intro (Nat.le_of_ble_eq_true rfl) ?_)
    refine And.intro rfl (And.intro (Nat.le_of_ble_eq_true rfl) ?_)
    refine WP_sub (Sub.ofL [(4, .ptr 1 0), (5, .int 0), (6, .ptr 2 0)] [.box 23 ((encCoord c).map AV.d), .box 55 [.d (dstr emp), .d (dstr emp), .d (dstr emp), .d (dstr emp), .d (dstr emp), .d (dstr emp), .d (dstr emp), .nils, .nils, .nils], .box 55 ((encPom (⟨zCoord, c.group, nm, c.version, pk, propsOf (propsIn l), firstOf (managedIn l), firstOf (depsIn l)⟩ : Pom)).map AV.d)] (Nat.zero_le _) ⟨rfl, rfl, rfl, rfl, rfl, rfl, trivial⟩ rfl rfl) ?_
    refine vc_sound tabOk (by kernel_rfl) ?_
    refine And.intro rfl ?_
    have hbg : mergeBig (merged c l) = (decide (((propsOf (propsIn l)).length : Int) > 100) || decide (((firstOf (managedIn l)).length : Int) > 200) || decide (((firstOf (depsIn l)).length : Int) > 200)) := rfl
    cases g1 : decide (((propsOf (propsIn l)).length : Int) > 100) with
    | true =>
      have hbig : mergeBig (merged c l) = true := by rw [hbg, g1]; rfl
      apply And.intro
      · exact ltb rfl
      refine And.intro (fun h => by cases h) (fun _ => ?_)
      apply And.intro
      · exact ltb rfl
      refine And.intro (fun h => by cases h) (fun _ => ?_)
      apply And.intro
      · exact ltb rfl
      refine And.intro (fun h => by cases h) (fun _ => ?_)
      apply And.intro
      · exact ltb rfl
      refine And.intro (fun h => by cases h) (fun _ => ?_)
      refine And.intro (fun _ => ?_) (fun h => by cases h)
      apply And.intro
      · exact ltb rfl
      refine And.intro (fun h => by cases h) (fun _ => ?_)
      apply And.intro
      · exact ltb rfl
      refine And.intro (fun h => by cases h) (fun _ => ?_)
      apply And.intro
      · exact ltb rfl
      refine And.intro (fun h => by cases h) (fun _ => ?_)
      apply And.intro
      · exact ltb rfl
      refine And.intro (fun h => by cases h) (fun _ => ?_)
      refine And.intro (fun _ => ?_) (fun h => by cases h)
      refine And.intro (fun _ => ?_) (fun h => by cases h)
      refine And.intro rfl (And.intro (Nat.le_of_ble_eq_true rfl) ?_)
      refine And.intro rfl (And.intro (DLe.agg ?_) (And.intro (DLe.of_eq ?_) trivial))
      · rw [mergeOf, if_pos hbig]
        exact ⟨DLe.refl _, DLe.refl _, DLe.refl _, DLe.refl _, DLe.refl _, DLe.refl _, DLe.refl _, DLe.nils _, DLe.nils _, DLe.nils _, trivial⟩
      · rw [mergeErr, if_pos hbig]
    | false =>
      apply And.intro
      · exact ltb rfl
      refine And.intro (fun _ => ?_) (fun h => absurd rfl h)
      apply And.intro
      · exact ltb rfl
      refine And.intro (fun _ => ?_) (fun h => absurd rfl h)
      apply And.intro
      · exact ltb rfl
      refine And.intro (fun _ => ?_) (fun h => absurd rfl h)
      apply And.intro
      · exact ltb rfl
      refine And.intro (fun _ => And.intro rfl ?_) (fun h => absurd rfl h)
      refine And.intro (fun h => by cases h) (fun _ => ?_)
      cases g2 : decide (((firstOf (managedIn l)).length : Int) > 200) with
      | true =>
        have hbig : mergeBig (merged c l) = true := by rw [hbg, g1, g2]; rfl
        apply And.intro
        · exact ltb rfl
        refine And.intro (fun h => by cases h) (fun _ => ?_)
        apply And.intro
        · exact ltb rfl
        refine And.intro (fun h => by cases h) (fun _ => ?_)
        apply And.intro
        · exact ltb rfl
        refine And.intro (fun h => by cases h) (fun _ => ?_)
        apply And.intro
        · exact ltb rfl
        refine And.intro (fun h => by cases h) (fun _ => ?_)
        refine And.intro (fun _ => ?_) (fun h => by cases h)
        refine And.intro (fun _ => ?_) (fun h => by cases h)
        refine And.intro rfl (And.intro (Nat.le_of_ble_eq_true rfl) ?_)
        refine And.intro rfl (And.intro (DLe.agg ?_) (And.intro (DLe.of_eq ?_) trivial))
        · rw [mergeOf, if_pos hbig]
          exact ⟨DLe.refl _, DLe.refl _, DLe.refl _, DLe.refl _, DLe.refl _, DLe.refl _, DLe.refl _, DLe.nils _, DLe.nils _, DLe.nils _, trivial⟩
        · rw [mergeErr, if_pos hbig]
      | false =>
        apply And.intro
        · exact ltb rfl
        refine And.intro (fun _ => ?_) (fun h => absurd rfl h)
        apply And.intro
        · exact ltb rfl
        refine And.intro (fun _ => ?_) (fun h => absurd rfl h)
        apply And.intro
        · exact ltb rfl
        refine And.intro (fun _ => ?_) (fun h => absurd rfl h)
        apply And.intro
        · exact ltb rfl
        refine And.intro (fun _ => And.intro rfl ?_) (fun h => absurd rfl h)
        refine And.intro (fun h => by cases h) (fun _ => ?_)
        cases g3 : decide (((firstOf (depsIn l)).length : Int) > 200) with
        | true =>
          have hbig : mergeBig (merged c l) = true := by rw [hbg, g1, g2, g3]; rfl
          refine And.intro (fun _ => ?_) (fun h => by cases h)
          refine And.intro rfl (And.intro (Nat.le_of_ble_eq_true rfl) ?_)
          refine And.intro rfl (And.intro (DLe.agg ?_) (And.intro (DLe.of_eq ?_) trivial))
          · rw [mergeOf, if_pos hbig]
            exact ⟨DLe.refl _, DLe.refl _, DLe.refl _, DLe.refl _, DLe.refl _, DLe.refl _, DLe.refl _, DLe.nils _, DLe.nils _, DLe.nils _, trivial⟩
          · rw [mergeErr, if_pos hbig]
        | false =>
          have hbig : ¬ mergeBig (merged c l) = true := by rw [hbg, g1, g2, g3]; decide
          refine And.intro (fun h => by cases h) (fun _ => ?_)
          refine And.intro rfl (And.intro rfl (And.intro (Nat.le_of_ble_eq_true rfl) ?_))
          refine And.intro rfl (And.intro (DLe.of_eq ?_) (And.intro (DLe.of_eq ?_) trivial))
          · rw [mergeOf, if_neg hbig, ← hm]; rfl
          · rw [mergeErr, if_neg hbig]
end Go.Proofs.Nw.K
