/- Bundle 11: NwSF, NwZSort1, NwZM2, NwZP3, NwZP6, NwSK, NwZI0. -/
import Derived.Test.YtblenipidihemaaGreatDoorNwA10
import Derived.Shelf.SlSortCmp.WholeK
import Derived.Shelf.SlSortCmp.NoneTotal
import Derived.Shelf.SlSortCmp.Whole1
import Derived.Sort.Walk0
import Derived.Sort.Grow
import Derived.Shelf.SlLaysF
import Derived.Shelf.SlLaysF0
import Derived.Shelf.SlGeneric
import Derived.Ground.SlsfProg
import Derived.Test.YtblenipidihemaaGreatDoorProg
section
/- SF: slices.SortFunc over a row of one's own, by any total order that a function of the program tells. -/
set_option linter.unusedVariables false
set_option linter.unusedSimpArgs false
namespace Go.Proofs.Nw.K
open Go Go.Proofs Go.Shelf Go.Lib Go.Sort Go.RowKit

theorem grow_of_below {w w' : World} (h : BelowD w.heap.size w w') : ∃ q os', w' = grow (w.drewN q) os' := by
  refine ⟨w'.drawn - w.drawn, w'.heap.extract w.heap.size w'.heap.size, ?_⟩
  have h1 := h.os
  have h2 := h.tape
  have h3 := h.output
  have h4 := h.dr
  have h5 : w'.heap = w.heap ++ w'.heap.extract w.heap.size w'.heap.size := by
    apply Array.ext_getElem?
    intro i
    rw [Array.getElem?_append]
    split
    · rename_i hi; exact h.block i hi
    · rename_i hi
      rw [Array.getElem?_extract]
      have hs := h.size
      split
      · rename_i h6; congr 1; omega
      · rename_i h6
        exact Array.getElem?_eq_none (by omega)
  cases w'
  cases w
  simp only [World.drewN, grow] at *
  subst h1 h2 h3
  simp only [World.mk.injEq, true_and]
  exact ⟨h5, by omega, trivial⟩

def sig0 : Sig := ⟨fun _ _ => none, fun _ => none⟩
theorem sealed0 (w : World) : Sealed sig0 w where
  cell := fun b o v h => by cases h
  obj := fun r o h => by cases h

/-- a function of scalars and structs of scalars, called in any world -/
theorem impl_calls {P : Program} {f : FuncId} {ds : List DV} {vs : List Value} {r : Value} (h : Impl P f ds [.one (.sc r)]) (hv : RepVs sig0 vs ds) (W : World) :
    Calls P f vs.toArray W fun e w' => e = .returned r ∧ ∃ q os', w' = grow (W.drewN q) os' := by
  refine (h W sig0 vs (sealed0 W) hv).mono fun e w' ⟨u, σ', h1, h2, h3, h4, h5⟩ => ?_
  have h5 : Rep σ' u (.sc r) := h5
  cases h5
  exact ⟨h1, grow_of_below h2⟩

section
variable {α : Type} [Inhabited α] {P : Program} {ρ : Ren}

omit [Inhabited α] in
theorem sort_perm (cf : α → α → Int) (xs : List α) : (xs.mergeSort fun x y => !(ltOf cf) y x).length = xs.length := by simp

theorem sort1_eff (L : SlLaysF.n6 P ρ) (ev : α → Value) (hsc : ∀ x, scal (ev x) = true) (h1 : OneCell ev) (h1' : ∀ x, (ev x).oneCell' = true) (cf : α → α → Int) (hO : SWO (ltOf cf)) (hT : ∀ x y, (ltOf cf) x y = false → (ltOf cf) y x = false → x = y) (g : Nat)
    (hcl : callable P g = true) (hcmp : ∀ x y, Impl P g [.one (.sc (ev x)), .one (.sc (ev y))] [.one (.sc (.int .i64 (cf x y)))])
    (hnone : ∀ (p : Option Addr) (cap : Nat) (fv : Value) (w : World), Calls P (ρ.f 6) #[.slice p 0 cap, fv] w fun e w' => e = .returned (.tuple #[]) ∧ w' = w)
    {st : List AO} {s k e : Nat} {xs : List α} (hst : st[s]? = some (.row k e 1 (xs.map fun x => [.sc (ev x)]))) (hn : xs.length ≤ 4194304) :
    Eff P (ρ.f 6) [.h s k 0 xs.length, fnAV g] st [] (st.set s (.row k e 1 ((xs.mergeSort fun x y => !(ltOf cf) y x).map fun x => [.sc (ev x)]))) := by
  intro w0 σ0 σ gh w vs hb hl hvs
  match vs, hl with
  | [v, fv], _ =>
  have r1 := hvs 0 v _ rfl rfl
  have r2 := RepA_sc (hvs 1 fv _ rfl rfl)
  subst r2
  obtain ⟨gv, hg, hR, A, c, hv⟩ := h_val hb hst r1
  have hlen : (xs.map fun x => [D.sc (ev x)]).length = xs.length := by simp
  have hvg : v = gv := by
    obtain ⟨h0, ⟨a1, a2, a3⟩ | ⟨b', m, c2, a1, a2, ⟨a3, a4, _⟩ | a3⟩⟩ := hR
    · exact a3
    · omega
    · obtain ⟨A', c', hgv, hc'⟩ := row_val hb hst hg
      rw [a1] at hgv
      injection hgv with e1 e2 e3
      rw [a3, a1, e2, hlen]; simp
  subst hvg
  obtain ⟨vals, hown, hsz, hval, huns, hone⟩ := hb.obj s _ _ hst hg
  rw [hlen] at hown
  generalize hys : (xs.mergeSort fun x y => !(ltOf cf) y x) = ys
  have hps : ys.length = xs.length := by rw [← hys]; exact sort_perm cf xs
  rcases hown.2 with ⟨e1, e2⟩ | ⟨blk, cap, cur, e1, e2, e3, e4, e5, e6, e7⟩
  · have : xs = [] := List.eq_nil_of_length_eq_zero e2
    subst this
    have : ys = [] := List.eq_nil_of_length_eq_zero hps
    subst this
    rw [e1]
    refine (hnone none 0 _ w).mono fun e w' ⟨h3, h4⟩ => ?_
    subst h4
    refine ⟨_, h3, σ, gh, ?_, [], rfl, by simp [RepVs]⟩
    rw [set_self hst]
    exact .refl hb
  · have hvals : vals = xs.map ev := by
      have hl1 : vals.length = xs.length * 1 := hown.1
      apply List.ext_getElem?
      intro t
      by_cases ht : t < xs.length
      · have hx : (xs.map fun x => [D.sc (ev x)])[t]? = some [D.sc (ev xs[t])] := by simp [ht]
        obtain ⟨u, h3, h4⟩ := hval t 0 _ _ hx rfl
        have h4 := RepA_sc (gh := gh) (st := st) (show RepA σ gh st u (.d (.sc (ev xs[t]))) from h4)
        rw [show t * 1 + 0 = t by omega] at h3
        rw [h3, h4]; simp [ht]
      · rw [List.getElem?_eq_none (by omega), List.getElem?_eq_none (by simp; omega)]
    subst hvals
    subst e1
    have hblk : blk < w.heap.size := (Array.getElem?_eq_some_iff.1 e3).1
    have hH : Holds ev w blk 0 xs.toArray := by
      intro j hj
      have hj' : j < xs.length := by simpa using hj
      have h3 := hown.cellAt j (by omega)
      have h4 := hown.frozenAt j
      rw [Nat.zero_add]
      refine ⟨?_, h4⟩
      rw [h3]
      simp [hj', getElem!_pos]
    have eg : ∀ args w, (callFunc g args).run P w = .ok (.enter g args) w := fun args w => callFunc_run hcl args w
    have hcl1 : CmpLays1 P g #[] ev cf blk 0 xs.toArray.size w := fun m os dk _ x y => by
      have := impl_calls (vs := [ev x, ev y]) (hcmp x y) ⟨rfl, fun i v d hv hd => by
        match i, hv, hd with
        | 0, hv, hd => simp at hv hd; subst hv hd; exact Rep.sc (hsc x)
        | 1, hv, hd => simp at hv hd; subst hv hd; exact Rep.sc (hsc y)
        | i + 2, hv, hd => simp at hv⟩ (sortWorld ev w blk 0 m dk os)
      simpa using this
    have hcon := Any.slices_SortFunc_total L ev h1 cf hO g #[] blk 0 cap xs.toArray w eg hcl1 hH hblk (by simp; omega) hT
    refine hcon.mono fun e' w' ⟨h3, m, os, h4⟩ => ?_
    have hd : (xs.toArray.toList.mergeSort fun x y => !(ltOf cf) y x) = ys := by rw [← hys]
    rw [hd] at h4
    generalize hF : ys.toArray = F at h4
    have hFs : F.size = xs.length := by rw [← hF]; simp [hps]
    have hw' : w' = grow (mapBlock (Sort.ahead w m) blk (putCells ev 0 F)) os := h4
    have hmb : ∀ j, (mapBlock (Sort.ahead w m) blk (putCells ev 0 F)).heap[j]? = if blk = j then (w.heap[j]?).map (onCells (putCells ev 0 F)) else w.heap[j]? := fun j => by
      simp only [mapBlock, Sort.ahead, Array.getElem?_modify]
    have hms : (mapBlock (Sort.ahead w m) blk (putCells ev 0 F)).heap.size = w.heap.size := by simp [mapBlock, Sort.ahead]
    have hgrown : w.grownBy w' (some blk) := by
      rw [hw']
      refine ⟨rfl, rfl, rfl, ?_, fun j hj hne => ?_⟩
      · rw [size_grow, hms]; omega
      · rw [heap_grow_old _ _ (by rw [hms]; exact hj), hmb, if_neg (fun h => hne (by rw [h]))]
    have hdr : w.drawn ≤ w'.drawn := by
      rw [hw']
      show w.drawn ≤ w.drawn + m
      omega
    have hcell : w'.heap[blk]? = some (.cells (putCells ev 0 F cur) e (0, 0)) := by
      rw [hw', heap_grow_old _ _ (by rw [hms]; exact hblk), hmb, if_pos rfl, e3]; rfl
    have hpc : (putCells ev 0 F cur).size = cur.size := by simp [putCells]
    have hFl : (putCells ev 0 F cur).toList.take (xs.length * 1) = ys.map ev := by
      have h5 : xs.length * 1 ≤ cur.size := by rw [e6]; omega
      apply List.ext_getElem?
      intro t
      by_cases ht : t < xs.length
      · rw [List.getElem?_take_of_lt (by omega)]
        have h7 : t < cur.size := by omega
        simp only [putCells, Array.getElem?_toList, Array.getElem?_mapIdx, Array.getElem?_eq_getElem h7, Option.map_some]
        rw [if_pos ⟨by omega, by omega⟩]
        have h8 : t < ys.length := by omega
        rw [← hF]
        simp [h8, getElem!_pos]
      · rw [List.getElem?_eq_none (by simp; omega), List.getElem?_eq_none (by simp; omega)]
    have keep : ∀ v a, RepA σ gh st v a → RepA σ gh (st.set s (.row k e 1 (ys.map fun x => [D.sc (ev x)]))) v a := fun v a h' => h'.set hst _ (fun k' e' sz' xs' heq => by cases heq; exact ⟨e, xs.map fun x => [D.sc (ev x)], rfl, by simp [hps]⟩)
    have := hb.turn (w' := w') hst hg (by simp) (by simpa [blkOf] using hgrown) (.slice (some ⟨blk, 0, none⟩) xs.length cap) (.row k e 1 (ys.map fun x => [D.sc (ev x)])) (fun b hb' => .inl hb')
      ⟨ys.map ev, ⟨by simp, .inr ⟨blk, cap, _, by simp [hps], e2, hcell, by simpa [hps] using e4, e5, by rw [hpc]; exact e6, by rw [List.length_map, hps]; exact hFl⟩⟩,
        fun i x hx => by
          simp only [List.getElem?_map, Option.map_eq_some_iff] at hx
          obtain ⟨p, _, rfl⟩ := hx
          rfl,
        fun i j x d hx hd => by
          simp only [List.getElem?_map, Option.map_eq_some_iff] at hx
          obtain ⟨p, hp, rfl⟩ := hx
          have hj : j = 0 := by
            have := (List.getElem?_eq_some_iff.1 hd).1
            simp at this; omega
          subst hj
          simp at hd
          subst hd
          exact ⟨ev p, by rw [show i * 1 + 0 = i by omega, List.getElem?_map, hp]; rfl, Rep.sc (hsc p)⟩,
        huns, fun v hv => by
          obtain ⟨p, _, rfl⟩ := List.mem_map.1 hv
          exact h1' p⟩
      (by rw [set_self hg]; exact keep) hdr
    rw [set_self hg] at this
    exact ⟨_, h3, σ, gh, this, [], rfl, by simp [RepVs]⟩
end
end Go.Proofs.Nw.K
end
section
/-
  DERIVED: THE SHELF's CONTRACTS AT THIS DUMP, IN PLAIN WORDS (tools/lay-plain.mjs out of 'NwZSort0.lean', which tools/lay-shelf.mjs wrote): THE SAME DECLARATIONS UNDER THE SAME NAMES: 'import', 'namespace', 'open', 'def', 'theorem' AND NOTHING ELSE: no command of the shelf's: FOR A HAND-IN. Each laying: the table of numbers ('.._ren') and one theorem, a field a fact of the dump's own or the kernel's comparison; each contract: ONE APPLICATION.
-/
namespace Go.Proofs
open Go.Shelf
def Tryz.sortStr_ren : Go.Shelf.Ren := ⟨fun | 6 => 54 | 15 => 46 | 14 => 91 | 28 => 81 | 29 => 82 | 20 => 119 | 21 => 120 | 22 => 121 | 23 => 122 | 24 => 123 | 25 => 124 | 26 => 125 | 27 => 126 | 46 => 137 | 47 => 106 | 48 => 107 | 49 => 138 | 50 => 139 | 57 => 146 | n => n, fun | 22 => 24 | 24 => 9 | 25 => 39 | 3 => 3 | 39 => 26 | 0 => 0 | 53 => 119 | 55 => 121 | 4 => 4 | 46 => 112 | 45 => 111 | 50 => 116 | 5 => 5 | 9 => 9 | 66 => 135 | 70 => 139 | 76 => 154 | 77 => 155 | n => n, fun | n => n⟩
theorem Tryz.sortStr : Go.Proofs.SlLaysF.n6 Tryz.prog Tryz.sortStr_ren := {
  mixed := by kernel_rfl
  f6 := ⟨Tryz.f54.name, by decide, Tryz.func54.trans (congrArg some (by kernel_rfl))⟩
  f14 := ⟨Tryz.f91.name, by decide, Tryz.func91.trans (congrArg some (by kernel_rfl))⟩
  f15 := Tryz.func46.trans (congrArg some (by kernel_rfl))
  f20 := ⟨Tryz.f119.name, by decide, Tryz.func119.trans (congrArg some (by kernel_rfl))⟩
  f21 := ⟨Tryz.f120.name, by decide, Tryz.func120.trans (congrArg some (by kernel_rfl))⟩
  f22 := ⟨Tryz.f121.name, by decide, Tryz.func121.trans (congrArg some (by kernel_rfl))⟩
  f23 := ⟨Tryz.f122.name, by decide, Tryz.func122.trans (congrArg some (by kernel_rfl))⟩
  f24 := ⟨Tryz.f123.name, by decide, Tryz.func123.trans (congrArg some (by kernel_rfl))⟩
  f25 := ⟨Tryz.f124.name, by decide, Tryz.func124.trans (congrArg some (by kernel_rfl))⟩
  f26 := ⟨Tryz.f125.name, by decide, Tryz.func125.trans (congrArg some (by kernel_rfl))⟩
  f27 := ⟨Tryz.f126.name, by decide, Tryz.func126.trans (congrArg some (by kernel_rfl))⟩
  f28 := Tryz.func81.trans (congrArg some (by kernel_rfl))
  f29 := Tryz.func82.trans (congrArg some (by kernel_rfl))
  f46 := ⟨Tryz.f137.name, by decide, Tryz.func137.trans (congrArg some (by kernel_rfl))⟩
  f47 := Tryz.func106.trans (congrArg some (by kernel_rfl))
  f48 := Tryz.func107.trans (congrArg some (by kernel_rfl))
  f49 := ⟨Tryz.f138.name, by decide, Tryz.func138.trans (congrArg some (by kernel_rfl))⟩
  f50 := ⟨Tryz.f139.name, by decide, Tryz.func139.trans (congrArg some (by kernel_rfl))⟩
  f57 := ⟨Tryz.f146.name, by decide, Tryz.func146.trans (congrArg some (by kernel_rfl))⟩
  t0 := Tryz.underlying0
  a0 := Tryz.isAgg0
  z0 := Tryz.sizeOf0
  v0 := Tryz.zeroValue0
  t3 := Tryz.underlying3
  a3 := Tryz.isAgg3
  z3 := Tryz.sizeOf3
  v3 := Tryz.zeroValue3
  t4 := Tryz.underlying4
  a4 := Tryz.isAgg4
  z4 := Tryz.sizeOf4
  v4 := Tryz.zeroValue4
  t5 := Tryz.underlying5
  a5 := Tryz.isAgg5
  z5 := Tryz.sizeOf5
  v5 := Tryz.zeroValue5
  t9 := Tryz.underlying9
  a9 := Tryz.isAgg9
  z9 := Tryz.sizeOf9
  v9 := Tryz.zeroValue9
  t22 := Tryz.underlying24
  a22 := Tryz.isAgg24
  z22 := Tryz.sizeOf24
  v22 := Tryz.zeroValue24
  a24 := Tryz.isAgg9
  z24 := Tryz.sizeOf9
  t25 := Tryz.underlying39
  a25 := Tryz.isAgg39
  z25 := Tryz.sizeOf39
  v25 := Tryz.zeroValue39
  t39 := Tryz.underlying26
  a39 := Tryz.isAgg26
  z39 := Tryz.sizeOf26
  v39 := Tryz.zeroValue26
  t45 := Tryz.underlying111
  a45 := Tryz.isAgg111
  z45 := Tryz.sizeOf111
  v45 := Tryz.zeroValue111
  t46 := Tryz.underlying112
  a46 := Tryz.isAgg112
  z46 := Tryz.sizeOf112
  v46 := Tryz.zeroValue112
  t50 := Tryz.underlying116
  a50 := Tryz.isAgg116
  z50 := Tryz.sizeOf116
  v50 := Tryz.zeroValue116
  t53 := Tryz.underlying119
  a53 := Tryz.isAgg119
  z53 := Tryz.sizeOf119
  v53 := Tryz.zeroValue119
  t55 := Tryz.underlying121
  a55 := Tryz.isAgg121
  z55 := Tryz.sizeOf121
  v55 := Tryz.zeroValue121
  t66 := Tryz.underlying135
  a66 := Tryz.isAgg135
  z66 := Tryz.sizeOf135
  v66 := Tryz.zeroValue135
  t70 := Tryz.underlying139
  a70 := Tryz.isAgg139
  z70 := Tryz.sizeOf139
  v70 := Tryz.zeroValue139
  t76 := Tryz.underlying154
  a76 := Tryz.isAgg154
  z76 := Tryz.sizeOf154
  v76 := Tryz.zeroValue154
  t77 := Tryz.underlying155
  a77 := Tryz.isAgg155
  z77 := Tryz.sizeOf155
  v77 := Tryz.zeroValue155 }
def Tryz.sortCoord_ren : Go.Shelf.Ren := ⟨fun | 6 => 27 | 15 => 46 | 14 => 45 | 28 => 81 | 29 => 82 | 20 => 73 | 21 => 74 | 22 => 75 | 23 => 76 | 24 => 77 | 25 => 78 | 26 => 79 | 27 => 80 | 46 => 105 | 47 => 106 | 48 => 107 | 49 => 108 | 50 => 109 | 57 => 128 | n => n, fun | 22 => 47 | 24 => 29 | 25 => 65 | 3 => 3 | 39 => 26 | 0 => 0 | 53 => 119 | 55 => 121 | 4 => 4 | 46 => 112 | 45 => 111 | 50 => 116 | 5 => 5 | 9 => 9 | 66 => 135 | 70 => 139 | 76 => 154 | 77 => 155 | n => n, fun | n => n⟩
theorem Tryz.sortCoord : Go.Proofs.SlLaysF0.n6 Tryz.prog Tryz.sortCoord_ren := {
  mixed := by kernel_rfl
  f6 := ⟨Tryz.f27.name, by decide, Tryz.func27.trans (congrArg some (by kernel_rfl))⟩
  f14 := ⟨Tryz.f45.name, by decide, Tryz.func45.trans (congrArg some (by kernel_rfl))⟩
  f15 := Tryz.func46.trans (congrArg some (by kernel_rfl))
  f20 := ⟨Tryz.f73.name, by decide, Tryz.func73.trans (congrArg some (by kernel_rfl))⟩
  f21 := ⟨Tryz.f74.name, by decide, Tryz.func74.trans (congrArg some (by kernel_rfl))⟩
  f22 := ⟨Tryz.f75.name, by decide, Tryz.func75.trans (congrArg some (by kernel_rfl))⟩
  f23 := ⟨Tryz.f76.name, by decide, Tryz.func76.trans (congrArg some (by kernel_rfl))⟩
  f24 := ⟨Tryz.f77.name, by decide, Tryz.func77.trans (congrArg some (by kernel_rfl))⟩
  f25 := ⟨Tryz.f78.name, by decide, Tryz.func78.trans (congrArg some (by kernel_rfl))⟩
  f26 := ⟨Tryz.f79.name, by decide, Tryz.func79.trans (congrArg some (by kernel_rfl))⟩
  f27 := ⟨Tryz.f80.name, by decide, Tryz.func80.trans (congrArg some (by kernel_rfl))⟩
  f28 := Tryz.func81.trans (congrArg some (by kernel_rfl))
  f29 := Tryz.func82.trans (congrArg some (by kernel_rfl))
  f46 := ⟨Tryz.f105.name, by decide, Tryz.func105.trans (congrArg some (by kernel_rfl))⟩
  f47 := Tryz.func106.trans (congrArg some (by kernel_rfl))
  f48 := Tryz.func107.trans (congrArg some (by kernel_rfl))
  f49 := ⟨Tryz.f108.name, by decide, Tryz.func108.trans (congrArg some (by kernel_rfl))⟩
  f50 := ⟨Tryz.f109.name, by decide, Tryz.func109.trans (congrArg some (by kernel_rfl))⟩
  f57 := ⟨Tryz.f128.name, by decide, Tryz.func128.trans (congrArg some (by kernel_rfl))⟩
  t0 := Tryz.underlying0
  a0 := Tryz.isAgg0
  z0 := Tryz.sizeOf0
  v0 := Tryz.zeroValue0
  t3 := Tryz.underlying3
  a3 := Tryz.isAgg3
  z3 := Tryz.sizeOf3
  v3 := Tryz.zeroValue3
  t4 := Tryz.underlying4
  a4 := Tryz.isAgg4
  z4 := Tryz.sizeOf4
  v4 := Tryz.zeroValue4
  t5 := Tryz.underlying5
  a5 := Tryz.isAgg5
  z5 := Tryz.sizeOf5
  v5 := Tryz.zeroValue5
  t9 := Tryz.underlying9
  a9 := Tryz.isAgg9
  z9 := Tryz.sizeOf9
  v9 := Tryz.zeroValue9
  t22 := Tryz.underlying47
  a22 := Tryz.isAgg47
  z22 := Tryz.sizeOf47
  v22 := Tryz.zeroValue47
  t25 := Tryz.underlying65
  a25 := Tryz.isAgg65
  z25 := Tryz.sizeOf65
  v25 := Tryz.zeroValue65
  t39 := Tryz.underlying26
  a39 := Tryz.isAgg26
  z39 := Tryz.sizeOf26
  v39 := Tryz.zeroValue26
  t45 := Tryz.underlying111
  a45 := Tryz.isAgg111
  z45 := Tryz.sizeOf111
  v45 := Tryz.zeroValue111
  t46 := Tryz.underlying112
  a46 := Tryz.isAgg112
  z46 := Tryz.sizeOf112
  v46 := Tryz.zeroValue112
  t50 := Tryz.underlying116
  a50 := Tryz.isAgg116
  z50 := Tryz.sizeOf116
  v50 := Tryz.zeroValue116
  t53 := Tryz.underlying119
  a53 := Tryz.isAgg119
  z53 := Tryz.sizeOf119
  v53 := Tryz.zeroValue119
  t55 := Tryz.underlying121
  a55 := Tryz.isAgg121
  z55 := Tryz.sizeOf121
  v55 := Tryz.zeroValue121
  t66 := Tryz.underlying135
  a66 := Tryz.isAgg135
  z66 := Tryz.sizeOf135
  v66 := Tryz.zeroValue135
  t70 := Tryz.underlying139
  a70 := Tryz.isAgg139
  z70 := Tryz.sizeOf139
  v70 := Tryz.zeroValue139
  t76 := Tryz.underlying154
  a76 := Tryz.isAgg154
  z76 := Tryz.sizeOf154
  v76 := Tryz.zeroValue154
  t77 := Tryz.underlying155
  a77 := Tryz.isAgg155
  z77 := Tryz.sizeOf155
  v77 := Tryz.zeroValue155 }
end Go.Proofs
end
section
/- QM2: the order of versions: what it is; the library's sort by it. -/
open Go Go.RowKit Go.Proofs Go.Sort Go.Shelf
set_option linter.unusedVariables false
set_option linter.unusedSimpArgs false
namespace Go.Proofs.Nw.K

def cmpV (a b : Str) : Int := wordsCmp (splitOf a) (splitOf b)
def wholeC (a b : Str) : Int := if cmpV a b ≠ 0 then cmpV a b else strCmp a b
theorem totV : TotPre cmpV := totWs.pull splitOf
theorem totC : TotPre wholeC := totV.lex totS
theorem wholeC_zero {a b : Str} (h : wholeC a b = 0) : a = b := by
  unfold wholeC at h
  split at h
  · omega
  · exact strCmp_zero h

theorem drop_size (s : Str) (n : Nat) : (⟨(s.data.toList.drop n).toArray⟩ : Str).size ≤ s.size := by
  rw [str_size, str_size]
  simp
theorem lettersOf_text (p : Pt) : (lettersOf p).text.size ≤ p.text.size := by
  unfold lettersOf
  split
  · exact Nat.zero_le _
  · exact Nat.le_refl _
theorem wordOf_text (p : Pt) : (wordOf p).text.size ≤ p.text.size := by
  unfold wordOf
  split
  · exact lettersOf_text p
  · split
    · exact Nat.zero_le _
    · split <;> exact drop_size _ _
theorem splitRev_text (l : List Pt) (w : Wd) (h : w ∈ splitRev l) : ∃ p ∈ l, w = wordOf p := by
  have key : ∀ (l : List Pt) (o : List Wd) (w : Wd), w ∈ l.foldl splitStep o → w ∈ o ∨ ∃ p ∈ l, w = wordOf p := by
    intro l
    induction l with
    | nil => intro o w h; exact .inl h
    | cons p r ih =>
      intro o w h
      rcases ih _ w h with h | ⟨q, hq, e⟩
      · unfold splitStep at h
        split at h
        · rcases List.mem_append.1 h with h | h
          · exact .inl h
          · exact .inr ⟨p, by simp, by simpa using h⟩
        · exact .inl h
      · exact .inr ⟨q, by simp [hq], e⟩
  rcases key l.reverse [] w h with h | ⟨p, hp, e⟩
  · simp at h
  · exact ⟨p, by simpa using hp, e⟩
theorem splitOf_text (v : Str) (hv : v.size ≤ maxLen) (w : Wd) (h : w ∈ splitOf v) : w.text.size ≤ maxLen := by
  obtain ⟨p, hp, rfl⟩ := splitRev_text _ w (by simpa [splitOf] using h)
  have := partsOf_text (lowerOf v) p hp (by rw [lowerOf_size]; exact hv)
  have := wordOf_text p
  omega
theorem splitOf_length (v : Str) : (splitOf v).length ≤ v.size + 1 := by
  have h1 := splitRev_length (partsOf (lowerOf v))
  have h2 := partsOf_length (lowerOf v)
  rw [lowerOf_size] at h2
  simp only [splitOf, List.length_reverse]
  omega

theorem chk_t {c : Prop} [Decidable c] {α : Type} {x : Option α} (h : c) : chk c x = x := by unfold chk; rw [if_pos h]

theorem big_ok : (4194304 : Nat) ≤ maxLen := by decide
theorem g_Split_eq (n : Nat) (v : Str) (h : v.size ≤ 4194303) : g_words_Split n v = some (splitOf v) := chk_t h
theorem g_order_Words_eq (n : Nat) (a b : Str) (ha : a.size ≤ 4194303) (hb : b.size ≤ 4194303) : g_order_Words n (splitOf a) (splitOf b) = some (cmpV a b) := by
  have h1 := splitOf_length a
  have h2 := splitOf_length b
  have hm := big_ok
  exact chk_t ⟨by omega, by omega, fun w h => splitOf_text a (by omega) w h, fun w h => splitOf_text b (by omega) w h⟩
theorem g_order_Compare_eq (n : Nat) (a b : Str) (ha : a.size ≤ 4194303) (hb : b.size ≤ 4194303) : g_order_Compare n a b = some (cmpV a b) := by
  unfold g_order_Compare
  rw [g_Split_eq n a ha, g_Split_eq n b hb]
  simp only [Option.bind_some]
  rw [g_order_Words_eq n a b ha hb]
  rfl
theorem g_cmpS_eq (n : Nat) (a b : Str) : g_cmp_Compare_string n a b = some (strCmp a b) := by
  unfold g_cmp_Compare_string strCmp
  have h1 : ∀ x, g_cmp_isNaN_string n x = some false := fun x => by simp [g_cmp_isNaN_string]
  rw [h1, h1]
  simp only [Option.bind_some]
  by_cases e1 : Op.bytesLess a.toList b.toList = true
  · simp [e1]
  · by_cases e2 : a.toList == b.toList
    · simp [e1, e2]
    · simp [e1, e2]
theorem g_Or2_eq (n : Nat) (x y : Int) : g_cmp_Or_int (n + 3) [x, y] = some (if x ≠ 0 then x else y) := by
  have e : ∀ z : Int, z ≠ 0 → (z != 0) = true := fun z h => by simpa using h
  by_cases h1 : x = 0
  · by_cases h2 : y = 0
    · subst h1 h2; simp [g_cmp_Or_int, g_cmp_Or_int.l14, g_cmp_Or_int.l14b, g_cmp_Or_int.k14, chk, in64]
    · subst h1; simp [g_cmp_Or_int, g_cmp_Or_int.l14, g_cmp_Or_int.l14b, g_cmp_Or_int.k14, chk, in64, e y h2]
  · simp [g_cmp_Or_int, g_cmp_Or_int.l14, g_cmp_Or_int.l14b, g_cmp_Or_int.k14, chk, in64, h1, e x h1]
theorem g_order_whole_eq (n : Nat) (a b : Str) (ha : a.size ≤ 4194303) (hb : b.size ≤ 4194303) : g_order_whole (n + 3) a b = some (wholeC a b) := by
  unfold g_order_whole
  rw [g_order_Compare_eq _ a b ha hb, g_cmpS_eq]
  simp only [Option.bind_some]
  rw [g_Or2_eq]
  rfl

/-! ### sorted -/
def sortV (xs : List Str) : List Str := xs.mergeSort fun x y => !(ltOf wholeC) y x
theorem sortV_length (xs : List Str) : (sortV xs).length = xs.length := by simp [sortV]
theorem TotPre.swo {α : Type} {c : α → α → Int} (h : TotPre c) : SWO (ltOf c) where
  irrefl x := by have := h.refl x; simp [ltOf, this]
  trans x y z h1 h2 := by
    simp only [ltOf, decide_eq_true_eq] at *
    exact h.lt_le h1 (by omega)
  ntrans x y z h1 h2 := by
    simp only [ltOf, decide_eq_false_iff_not] at *
    have a1 := h.anti x y
    have a2 := h.anti y z
    have a3 := h.anti x z
    have := h.trans z y x (by omega) (by omega)
    omega
abbrev Sm : Type := {s : Str // s.size ≤ 4194303}
def wholeS (x y : Sm) : Int := wholeC x.1 y.1
theorem totCS : TotPre wholeS := totC.pull Subtype.val
theorem attach_map : ∀ (xs : List Str) (h : ∀ x ∈ xs, x.size ≤ 4194303), ∃ ys : List Sm, ys.map Subtype.val = xs
  | [], _ => ⟨[], rfl⟩
  | x :: r, h => by
    obtain ⟨ys, hy⟩ := attach_map r (fun x hx => h x (by simp [hx]))
    exact ⟨⟨x, h x (by simp)⟩ :: ys, by simp [hy]⟩

def g_slices_SortFunc_string_string__order_whole (n : Nat) (xs : List Str) : Option (List Str) := chk (xs.length ≤ 4194304 ∧ ∀ x ∈ xs, x.size ≤ 4194303) <| some (sortV xs)
theorem g_slices_SortFunc_string_string__order_whole.len (n : Nat) (xs v : List Str) (h : g_slices_SortFunc_string_string__order_whole n xs = some v) : v.length = xs.length := by
  obtain ⟨c1, h⟩ := chk_some h
  obtain rfl := Option.some.inj h
  exact sortV_length xs
instance : Inhabited Sm := ⟨⟨emp, Nat.zero_le _⟩⟩
theorem g_slices_SortFunc_string_string__order_whole.eff (n : Nat) (xs v : List Str) (h : g_slices_SortFunc_string_string__order_whole n xs = some v) {st : List AO} {s k e : Nat} (hst : st[s]? = some (.row k e 1 (xs.map encStr))) :
    Eff Tryz.prog 54 [.h s k 0 xs.length, fnAV 55] st [] (st.set s (.row k e 1 (v.map encStr))) := by
  obtain ⟨⟨c1, c2⟩, h⟩ := chk_some h
  obtain rfl := Option.some.inj h
  obtain ⟨ys, rfl⟩ := attach_map xs c2
  have L := Tryz.sortStr
  have := sort1_eff (P := Tryz.prog) (α := Sm) L (fun x => .string x.1) (fun x => rfl) (fun x => rfl) (fun x => rfl) wholeS totCS.swo
    (fun x y h1 h2 => by
      simp only [ltOf, decide_eq_false_iff_not] at h1 h2
      have a1 := totCS.anti x y
      exact Subtype.ext (wholeC_zero (a := x.1) (b := y.1) (by show wholeS x y = 0; omega)))
    55 (by kernel_rfl) (fun x y => g_order_whole.ok 3 x.1 y.1 _ (g_order_whole_eq 0 x.1 y.1 x.2 y.2))
    (fun p cap fv w => AnyF.slices_SortFunc_none { L with } p cap fv w) (st := st) (s := s) (k := k) (e := e) (xs := ys) (by rw [hst]; simp [encStr]) (by simpa using c1)
  have e1 : sortV (ys.map Subtype.val) = (ys.mergeSort fun x y => !(ltOf wholeS) y x).map Subtype.val := by
    unfold sortV
    rw [List.map_mergeSort]
    intro a ha b hb
    rfl
  rw [e1]
  simp only [List.length_map, List.map_map] at this ⊢
  exact this
end Go.Proofs.Nw.K
end
section
/- Printed by a program of mine (pg.py): functions that may have no answer, and that the code comes to them. -/
open Go Go.RowKit Go.Proofs
set_option linter.unusedVariables false
set_option linter.unusedSimpArgs false
set_option maxHeartbeats 1000000
namespace Go.Proofs.Nw.K

/-! ### newel/order.Sort -/
def g_order_Sort (n : Nat) (a0 : (List Str)) : Option ((List Str)) :=
  (g_slices_Clone_string_string n a0).bind fun y1 =>
  (g_slices_SortFunc_string_string__order_whole n y1).bind fun y2 =>
  some y2
theorem g_order_Sort.ok (n : Nat) (a0 : (List Str)) (r : (List Str)) (h : g_order_Sort n a0 = some r) : Impl Tryz.prog 30 [.one (.tl Str 1 encStr emp a0)] [.one (.tl Str 1 encStr emp r)] := by
  refine impl_wp tabOk Tryz.func30 rfl rfl (by kernel_rfl) ?_
  unfold g_order_Sort at h
  refine WP_seq ?_
  refine vcc_sound _ _ _ tabOk (by exact rfl) ?_
  repeat (first | refine Ob.mk (by first | rfl | omega | assumption | exact ⟨rfl, rfl, (List.length_map _).symm⟩ | exact ⟨rfl, rfl, by rw [List.length_map]; omega⟩) ?_ | refine Br.t ?_ | refine Br.f ?_)
  refine WP_seq ?_
  refine vcc_sound _ _ _ tabOk (by exact rfl) ?_
  obtain ⟨y1, hy1, h⟩ := bind_some h
  repeat (first | refine Ob.mk (by first | rfl | omega | assumption | exact ⟨rfl, rfl, (List.length_map _).symm⟩ | exact ⟨rfl, rfl, by rw [List.length_map]; omega⟩) ?_ | refine Br.t ?_ | refine Br.f ?_)
  refine CallD.ownt 9 1 encStr y1 (g_slices_Clone_string_string.own n a0 y1 hy1) ?_
  repeat (first | refine Ob.mk (by first | rfl | omega | assumption | exact ⟨rfl, rfl, (List.length_map _).symm⟩ | exact ⟨rfl, rfl, by rw [List.length_map]; omega⟩) ?_ | refine Br.t ?_ | refine Br.f ?_)
  refine WP_seq ?_
  refine vcc_sound _ _ _ tabOk (by exact rfl) ?_
  obtain ⟨y2, hy2, h⟩ := bind_some h
  have hly2 := g_slices_SortFunc_string_string__order_whole.len n y1 y2 hy2
  repeat (first | refine Ob.mk (by first | rfl | omega | assumption | exact ⟨rfl, rfl, (List.length_map _).symm⟩ | exact ⟨rfl, rfl, by rw [List.length_map]; omega⟩) ?_ | refine Br.t ?_ | refine Br.f ?_)
  refine CallE.eff _ _ (g_slices_SortFunc_string_string__order_whole.eff n y1 y2 hy2 rfl) ?_
  repeat (first | refine Ob.mk (by first | rfl | omega | assumption | exact ⟨rfl, rfl, (List.length_map _).symm⟩ | exact ⟨rfl, rfl, by rw [List.length_map]; omega⟩) ?_ | refine Br.t ?_ | refine Br.f ?_)
  refine WP_seq ?_
  refine vcc_sound _ _ _ tabOk (by exact rfl) ?_
  repeat (first | refine Ob.mk (by first | rfl | omega | assumption | exact ⟨rfl, rfl, (List.length_map _).symm⟩ | exact ⟨rfl, rfl, by rw [List.length_map]; omega⟩) ?_ | refine Br.t ?_ | refine Br.f ?_)
  refine WP_ret ?_
  obtain rfl := Option.some.inj h
  repeat (first | refine Ob.mk (by first | rfl | omega | assumption | exact ⟨rfl, rfl, (List.length_map _).symm⟩ | exact ⟨rfl, rfl, by rw [List.length_map]; omega⟩) ?_ | refine Br.t ?_ | refine Br.f ?_)
  exact ⟨DLe.tl emp rfl, trivial⟩

end Go.Proofs.Nw.K
end
section
/- Printed by a program of mine (pg.py): functions that may have no answer, and that the code comes to them. -/
open Go Go.RowKit Go.Proofs
set_option linter.unusedVariables false
set_option linter.unusedSimpArgs false
set_option maxHeartbeats 1000000
namespace Go.Proofs.Nw.K

/-! ### newel/newellaw13.few -/
def g_newellaw13_few.k14 (n : Nat) (a0 : (List Item)) : Option (Bool) :=
  some (decide ((a0.length : Int) ≤ 40))
def g_newellaw13_few.l14b (n : Nat) (a0 : (List Item)) (rec14 : Int → Option (Bool)) (x15 : Int) : Option (Bool) :=
  bif (decide (x15 < (a0.length : Int))) then (
    chk (0 ≤ x15 ∧ x15 < (a0.length : Int)) <|
    bif (decide ((((a0.getD x15.toNat zItem).coord.version).size : Int) > 150)) then (
      some false
    ) else (
      chk (in64 (x15 + 1)) <|
      rec14 (x15 + 1)
    )
  ) else (
    g_newellaw13_few.k14 n a0
  )
def g_newellaw13_few.l14 (n : Nat) (a0 : (List Item)) : Nat → Int → Option (Bool)
  | 0, _ => none
  | m + 1, x15 => g_newellaw13_few.l14b n a0 (g_newellaw13_few.l14 n a0 m) x15
def g_newellaw13_few (n : Nat) (a0 : (List Item)) : Option (Bool) :=
  g_newellaw13_few.l14 n a0 n 0
theorem g_newellaw13_few.ok (n : Nat) (a0 : (List Item)) (r : Bool) (h : g_newellaw13_few n a0 = some r) : Impl Tryz.prog 13 [.one (.tl Item 4 encItem zItem a0)] [.one (dbool r)] := by
  refine impl_wp tabOk Tryz.func13 rfl rfl (by kernel_rfl) ?_
  unfold g_newellaw13_few at h
  refine WP_seq ?_
  refine vcc_sound _ _ _ tabOk (by exact rfl) ?_
  repeat (first | refine Ob.mk (by first | rfl | omega | assumption | exact ⟨rfl, rfl, (List.length_map _).symm⟩ | exact ⟨rfl, rfl, by rw [List.length_map]; omega⟩) ?_ | refine Br.t ?_ | refine Br.f ?_)
  refine WP_seq ?_
  refine WP_seq ?_
  refine vcc_sound _ _ _ tabOk (by exact rfl) ?_
  repeat (first | refine Ob.mk (by first | rfl | omega | assumption | exact ⟨rfl, rfl, (List.length_map _).symm⟩ | exact ⟨rfl, rfl, by rw [List.length_map]; omega⟩) ?_ | refine Br.t ?_ | refine Br.f ?_)
  refine WP_cutQ (α := {p : Unit // g_newellaw13_few.k14 n a0 = some r}) (fun p => ofL [(0, .d (.tl Item 4 encItem zItem a0))]) (fun p => []) (WP_block (WP_loop (α := {x : Nat × Int // g_newellaw13_few.l14 n a0 x.1 x.2 = some r}) (fun x => ofL [(0, .d (.tl Item 4 encItem zItem a0)), (3, .int x.1.2)]) (fun x => []) (fun x => x.1.1) ⟨(n, 0), h⟩ (Sub.ofL _ _ (Nat.zero_le _) ⟨rfl, rfl, rfl, rfl, trivial⟩ rfl rfl) ?_)) ?_
  rotate_left
  · rintro ⟨⟨⟩, h⟩ env st hs
    replace h : g_newellaw13_few.k14 n a0 = some r := h
    unfold g_newellaw13_few.k14 at h
    refine WP_sub hs ?_
    try dsimp only
    refine WP_seq ?_
    refine vcc_sound _ _ _ tabOk (by exact rfl) ?_
    repeat (first | refine Ob.mk (by first | rfl | omega | assumption | exact ⟨rfl, rfl, (List.length_map _).symm⟩ | exact ⟨rfl, rfl, by rw [List.length_map]; omega⟩) ?_ | refine Br.t ?_ | refine Br.f ?_)
    refine WP_ret ?_
    obtain rfl := Option.some.inj h
    repeat (first | refine Ob.mk (by first | rfl | omega | assumption | exact ⟨rfl, rfl, (List.length_map _).symm⟩ | exact ⟨rfl, rfl, by rw [List.length_map]; omega⟩) ?_ | refine Br.t ?_ | refine Br.f ?_)
    exact ⟨DLe.refl _, trivial⟩
  rintro ⟨⟨m14, x15⟩, h⟩
  cases m14 with
  | zero => exact nomatch (show (none : Option (Bool)) = some r from h)
  | succ m14 =>
    replace h : g_newellaw13_few.l14b n a0 (g_newellaw13_few.l14 n a0 m14) x15 = some r := h
    unfold g_newellaw13_few.l14b at h
    try dsimp only
    refine WP_seq ?_
    refine WP_seq ?_
    refine vcc_sound _ _ _ tabOk (by exact rfl) ?_
    repeat (first | refine Ob.mk (by first | rfl | omega | assumption | exact ⟨rfl, rfl, (List.length_map _).symm⟩ | exact ⟨rfl, rfl, by rw [List.length_map]; omega⟩) ?_ | refine Br.t ?_ | refine Br.f ?_)
    refine vcc_sound _ _ _ tabOk (by exact rfl) ?_
    repeat (first | refine Ob.mk (by first | rfl | omega | assumption | exact ⟨rfl, rfl, (List.length_map _).symm⟩ | exact ⟨rfl, rfl, by rw [List.length_map]; omega⟩) ?_ | refine Br.t ?_ | refine Br.f ?_)
    refine Br.mk (fun b17 => ?_) (fun b17 => ?_)
    · replace h := bif_t b17 h
      refine WP_skip ?_
      refine WP_seq ?_
      refine WP_block ?_
      refine WP_seq ?_
      refine vcc_sound _ _ _ tabOk (by exact rfl) ?_
      obtain ⟨c18, h⟩ := chk_some h
      repeat (first | refine Ob.mk (by first | rfl | omega | assumption | exact ⟨rfl, rfl, (List.length_map _).symm⟩ | exact ⟨rfl, rfl, by rw [List.length_map]; omega⟩) ?_ | refine Br.t ?_ | refine Br.f ?_)
      refine vcc_sound _ _ _ tabOk (by exact rfl) ?_
      repeat (first | refine Ob.mk (by first | rfl | omega | assumption | exact ⟨rfl, rfl, (List.length_map _).symm⟩ | exact ⟨rfl, rfl, by rw [List.length_map]; omega⟩) ?_ | refine Br.t ?_ | refine Br.f ?_)
      refine Br.mk (fun b19 => ?_) (fun b19 => ?_)
      · replace h := bif_t b19 h
        refine WP_seq ?_
        refine vcc_sound _ _ _ tabOk (by exact rfl) ?_
        repeat (first | refine Ob.mk (by first | rfl | omega | assumption | exact ⟨rfl, rfl, (List.length_map _).symm⟩ | exact ⟨rfl, rfl, by rw [List.length_map]; omega⟩) ?_ | refine Br.t ?_ | refine Br.f ?_)
        refine WP_ret ?_
        obtain rfl := Option.some.inj h
        repeat (first | refine Ob.mk (by first | rfl | omega | assumption | exact ⟨rfl, rfl, (List.length_map _).symm⟩ | exact ⟨rfl, rfl, by rw [List.length_map]; omega⟩) ?_ | refine Br.t ?_ | refine Br.f ?_)
        exact ⟨DLe.refl _, trivial⟩
      · replace h := bif_f b19 h
        refine WP_skip ?_
        refine vcc_sound _ _ _ tabOk (by exact rfl) ?_
        obtain ⟨c20, h⟩ := chk_some h
        repeat (first | refine Ob.mk (by first | rfl | omega | assumption | exact ⟨rfl, rfl, (List.length_map _).symm⟩ | exact ⟨rfl, rfl, by rw [List.length_map]; omega⟩) ?_ | refine Br.t ?_ | refine Br.f ?_)
        repeat (first | refine Ob.mk (by first | rfl | omega | assumption | exact ⟨rfl, rfl, (List.length_map _).symm⟩ | exact ⟨rfl, rfl, by rw [List.length_map]; omega⟩) ?_ | refine Br.t ?_ | refine Br.f ?_)
        exact ⟨⟨(m14, (x15 + 1)), h⟩, Nat.lt_succ_self _, Sub.ofL _ _ (Nat.zero_le _) ⟨rfl, rfl, rfl, rfl, trivial⟩ rfl rfl⟩
    · replace h := bif_f b17 h
      refine WP_exit ?_
      repeat (first | refine Ob.mk (by first | rfl | omega | assumption | exact ⟨rfl, rfl, (List.length_map _).symm⟩ | exact ⟨rfl, rfl, by rw [List.length_map]; omega⟩) ?_ | refine Br.t ?_ | refine Br.f ?_)
      exact ⟨⟨(), h⟩, Sub.ofL _ _ (Nat.zero_le _) ⟨rfl, rfl, trivial⟩ rfl rfl⟩

/-! ### newel/coord.Compare -/
def g_coord_Compare (n : Nat) (a0 : Coord) (a1 : Coord) : Option (Int) :=
  (g_cmp_Compare_string n a0.group a1.group).bind fun y1 =>
  (g_cmp_Compare_string n a0.name a1.name).bind fun y2 =>
  (g_order_Compare n a0.version a1.version).bind fun y3 =>
  (g_cmp_Compare_string n a0.version a1.version).bind fun y4 =>
  (g_cmp_Or_int n [y1, y2, y3, y4]).bind fun y5 =>
  some y5
theorem g_coord_Compare.ok (n : Nat) (a0 : Coord) (a1 : Coord) (r : Int) (h : g_coord_Compare n a0 a1 = some r) : Impl Tryz.prog 28 [.agg (encCoord a0), .agg (encCoord a1)] [.one (dint r)] := by
  refine impl_wp tabOk Tryz.func28 rfl rfl (by kernel_rfl) ?_
  unfold g_coord_Compare at h
  refine WP_seq ?_
  refine vcc_sound _ _ _ tabOk (by exact rfl) ?_
  repeat (first | refine Ob.mk (by first | rfl | omega | assumption | exact ⟨rfl, rfl, (List.length_map _).symm⟩ | exact ⟨rfl, rfl, by rw [List.length_map]; omega⟩) ?_ | refine Br.t ?_ | refine Br.f ?_)
  refine WP_seq ?_
  refine cdraw1 tabOk (by kernel_rfl) ?_
  obtain ⟨y1, hy1, h⟩ := bind_some h
  repeat (first | refine Ob.mk (by first | rfl | omega | assumption | exact ⟨rfl, rfl, (List.length_map _).symm⟩ | exact ⟨rfl, rfl, by rw [List.length_map]; omega⟩) ?_ | refine Br.t ?_ | refine Br.f ?_)
  refine CallD.mk _ _ (g_cmp_Compare_string.ok n a0.group a1.group y1 hy1) (by exact ⟨DLe.refl _, DLe.refl _, trivial⟩) ?_
  obtain ⟨y2, hy2, h⟩ := bind_some h
  repeat (first | refine Ob.mk (by first | rfl | omega | assumption | exact ⟨rfl, rfl, (List.length_map _).symm⟩ | exact ⟨rfl, rfl, by rw [List.length_map]; omega⟩) ?_ | refine Br.t ?_ | refine Br.f ?_)
  refine CallD.mk _ _ (g_cmp_Compare_string.ok n a0.name a1.name y2 hy2) (by exact ⟨DLe.refl _, DLe.refl _, trivial⟩) ?_
  obtain ⟨y3, hy3, h⟩ := bind_some h
  repeat (first | refine Ob.mk (by first | rfl | omega | assumption | exact ⟨rfl, rfl, (List.length_map _).symm⟩ | exact ⟨rfl, rfl, by rw [List.length_map]; omega⟩) ?_ | refine Br.t ?_ | refine Br.f ?_)
  refine CallD.mk _ _ (g_order_Compare.ok n a0.version a1.version y3 hy3) (by exact ⟨DLe.refl _, DLe.refl _, trivial⟩) ?_
  obtain ⟨y4, hy4, h⟩ := bind_some h
  repeat (first | refine Ob.mk (by first | rfl | omega | assumption | exact ⟨rfl, rfl, (List.length_map _).symm⟩ | exact ⟨rfl, rfl, by rw [List.length_map]; omega⟩) ?_ | refine Br.t ?_ | refine Br.f ?_)
  refine CallD.mk _ _ (g_cmp_Compare_string.ok n a0.version a1.version y4 hy4) (by exact ⟨DLe.refl _, DLe.refl _, trivial⟩) ?_
  repeat (first | refine Ob.mk (by first | rfl | omega | assumption | exact ⟨rfl, rfl, (List.length_map _).symm⟩ | exact ⟨rfl, rfl, by rw [List.length_map]; omega⟩) ?_ | refine Br.t ?_ | refine Br.f ?_)
  refine NewS.ty encInt (0 : Int) [y1, y2, y3, y4] rfl ?_
  obtain ⟨y5, hy5, h⟩ := bind_some h
  repeat (first | refine Ob.mk (by first | rfl | omega | assumption | exact ⟨rfl, rfl, (List.length_map _).symm⟩ | exact ⟨rfl, rfl, by rw [List.length_map]; omega⟩) ?_ | refine Br.t ?_ | refine Br.f ?_)
  refine CallD.mk _ _ (g_cmp_Or_int.ok n [y1, y2, y3, y4] y5 hy5) (by exact ⟨DLe.refl _, trivial⟩) ?_
  repeat (first | refine Ob.mk (by first | rfl | omega | assumption | exact ⟨rfl, rfl, (List.length_map _).symm⟩ | exact ⟨rfl, rfl, by rw [List.length_map]; omega⟩) ?_ | refine Br.t ?_ | refine Br.f ?_)
  refine WP_ret ?_
  obtain rfl := Option.some.inj h
  repeat (first | refine Ob.mk (by first | rfl | omega | assumption | exact ⟨rfl, rfl, (List.length_map _).symm⟩ | exact ⟨rfl, rfl, by rw [List.length_map]; omega⟩) ?_ | refine Br.t ?_ | refine Br.f ?_)
  exact ⟨DLe.refl _, trivial⟩

/-! ### newel/coord.letter -/
def g_coord_letter (n : Nat) (a0 : Int) : Option (Bool) :=
  bif (decide (a0 ≥ 65)) then (
    bif (decide (a0 ≤ 90)) then (
      some true
    ) else (
      bif (decide (a0 ≥ 97)) then (
        bif (decide (a0 ≤ 122)) then (
          some true
        ) else (
          bif (decide (a0 ≥ 48)) then (
            bif (decide (a0 ≤ 57)) then (
              some true
            ) else (
              bif (a0 == 95) then (
                some true
              ) else (
                bif (a0 == 45) then (
                  some true
                ) else (
                  some (a0 == 46)
                )
              )
            )
          ) else (
            bif (a0 == 95) then (
              some true
            ) else (
              bif (a0 == 45) then (
                some true
              ) else (
                some (a0 == 46)
              )
            )
          )
        )
      ) else (
        bif (decide (a0 ≥ 48)) then (
          bif (decide (a0 ≤ 57)) then (
            some true
          ) else (
            bif (a0 == 95) then (
              some true
            ) else (
              bif (a0 == 45) then (
                some true
              ) else (
                some (a0 == 46)
              )
            )
          )
        ) else (
          bif (a0 == 95) then (
            some true
          ) else (
            bif (a0 == 45) then (
              some true
            ) else (
              some (a0 == 46)
            )
          )
        )
      )
    )
  ) else (
    bif (decide (a0 ≥ 97)) then (
      bif (decide (a0 ≤ 122)) then (
        some true
      ) else (
        bif (decide (a0 ≥ 48)) then (
          bif (decide (a0 ≤ 57)) then (
            some true
          ) else (
            bif (a0 == 95) then (
              some true
            ) else (
              bif (a0 == 45) then (
                some true
              ) else (
                some (a0 == 46)
              )
            )
          )
        ) else (
          bif (a0 == 95) then (
            some true
          ) else (
            bif (a0 == 45) then (
              some true
            ) else (
              some (a0 == 46)
            )
          )
        )
      )
    ) else (
      bif (decide (a0 ≥ 48)) then (
        bif (decide (a0 ≤ 57)) then (
          some true
        ) else (
          bif (a0 == 95) then (
            some true
          ) else (
            bif (a0 == 45) then (
              some true
            ) else (
              some (a0 == 46)
            )
          )
        )
      ) else (
        bif (a0 == 95) then (
          some true
        ) else (
          bif (a0 == 45) then (
            some true
          ) else (
            some (a0 == 46)
          )
        )
      )
    )
  )
theorem g_coord_letter.ok (n : Nat) (a0 : Int) (r : Bool) (h : g_coord_letter n a0 = some r) : Impl Tryz.prog 86 [.one (dbyte a0)] [.one (dbool r)] := by
  refine impl_wp tabOk Tryz.func86 rfl rfl (by kernel_rfl) ?_
  unfold g_coord_letter at h
  refine WP_seq ?_
  refine vcc_sound _ _ _ tabOk (by exact rfl) ?_
  repeat (first | refine Ob.mk (by first | rfl | omega | assumption | exact ⟨rfl, rfl, (List.length_map _).symm⟩ | exact ⟨rfl, rfl, by rw [List.length_map]; omega⟩) ?_ | refine Br.t ?_ | refine Br.f ?_)
  refine WP_seq ?_
  refine vcc_sound _ _ _ tabOk (by exact rfl) ?_
  repeat (first | refine Ob.mk (by first | rfl | omega | assumption | exact ⟨rfl, rfl, (List.length_map _).symm⟩ | exact ⟨rfl, rfl, by rw [List.length_map]; omega⟩) ?_ | refine Br.t ?_ | refine Br.f ?_)
  refine Br.mk (fun b1 => ?_) (fun b1 => ?_)
  · replace h := bif_t b1 h
    repeat (first | refine Ob.mk (by first | rfl | omega | assumption | exact ⟨rfl, rfl, (List.length_map _).symm⟩ | exact ⟨rfl, rfl, by rw [List.length_map]; omega⟩) ?_ | refine Br.t ?_ | refine Br.f ?_)
    refine Br.mk (fun b2 => ?_) (fun b2 => ?_)
    · replace h := bif_t b2 h
      repeat (first | refine Ob.mk (by first | rfl | omega | assumption | exact ⟨rfl, rfl, (List.length_map _).symm⟩ | exact ⟨rfl, rfl, by rw [List.length_map]; omega⟩) ?_ | refine Br.t ?_ | refine Br.f ?_)
      refine WP_ret ?_
      obtain rfl := Option.some.inj h
      repeat (first | refine Ob.mk (by first | rfl | omega | assumption | exact ⟨rfl, rfl, (List.length_map _).symm⟩ | exact ⟨rfl, rfl, by rw [List.length_map]; omega⟩) ?_ | refine Br.t ?_ | refine Br.f ?_)
      exact ⟨DLe.refl _, trivial⟩
    · replace h := bif_f b2 h
      repeat (first | refine Ob.mk (by first | rfl | omega | assumption | exact ⟨rfl, rfl, (List.length_map _).symm⟩ | exact ⟨rfl, rfl, by rw [List.length_map]; omega⟩) ?_ | refine Br.t ?_ | refine Br.f ?_)
      refine Br.mk (fun b3 => ?_) (fun b3 => ?_)
      · replace h := bif_t b3 h
        repeat (first | refine Ob.mk (by first | rfl | omega | assumption | exact ⟨rfl, rfl, (List.length_map _).symm⟩ | exact ⟨rfl, rfl, by rw [List.length_map]; omega⟩) ?_ | refine Br.t ?_ | refine Br.f ?_)
        refine Br.mk (fun b4 => ?_) (fun b4 => ?_)
        · replace h := bif_t b4 h
          repeat (first | refine Ob.mk (by first | rfl | omega | assumption | exact ⟨rfl, rfl, (List.length_map _).symm⟩ | exact ⟨rfl, rfl, by rw [List.length_map]; omega⟩) ?_ | refine Br.t ?_ | refine Br.f ?_)
          refine WP_ret ?_
          obtain rfl := Option.some.inj h
          repeat (first | refine Ob.mk (by first | rfl | omega | assumption | exact ⟨rfl, rfl, (List.length_map _).symm⟩ | exact ⟨rfl, rfl, by rw [List.length_map]; omega⟩) ?_ | refine Br.t ?_ | refine Br.f ?_)
          exact ⟨DLe.refl _, trivial⟩
        · replace h := bif_f b4 h
          repeat (first | refine Ob.mk (by first | rfl | omega | assumption | exact ⟨rfl, rfl, (List.length_map _).symm⟩ | exact ⟨rfl, rfl, by rw [List.length_map]; omega⟩) ?_ | refine Br.t ?_ | refine Br.f ?_)
          refine Br.mk (fun b5 => ?_) (fun b5 => ?_)
          · replace h := bif_t b5 h
            repeat (first | refine Ob.mk (by first | rfl | omega | assumption | exact ⟨rfl, rfl, (List.length_map _).symm⟩ | exact ⟨rfl, rfl, by rw [List.length_map]; omega⟩) ?_ | refine Br.t ?_ | refine Br.f ?_)
            refine Br.mk (fun b6 => ?_) (fun b6 => ?_)
            · replace h := bif_t b6 h
              repeat (first | refine Ob.mk (by first | rfl | omega | assumption | exact ⟨rfl, rfl, (List.length_map _).symm⟩ | exact ⟨rfl, rfl, by rw [List.length_map]; omega⟩) ?_ | refine Br.t ?_ | refine Br.f ?_)
              refine WP_ret ?_
              obtain rfl := Option.some.inj h
              repeat (first | refine Ob.mk (by first | rfl | omega | assumption | exact ⟨rfl, rfl, (List.length_map _).symm⟩ | exact ⟨rfl, rfl, by rw [List.length_map]; omega⟩) ?_ | refine Br.t ?_ | refine Br.f ?_)
              exact ⟨DLe.refl _, trivial⟩
            · replace h := bif_f b6 h
              repeat (first | refine Ob.mk (by first | rfl | omega | assumption | exact ⟨rfl, rfl, (List.length_map _).symm⟩ | exact ⟨rfl, rfl, by rw [List.length_map]; omega⟩) ?_ | refine Br.t ?_ | refine Br.f ?_)
              refine Br.mk (fun b7 => ?_) (fun b7 => ?_)
              · replace h := bif_t b7 h
                repeat (first | refine Ob.mk (by first | rfl | omega | assumption | exact ⟨rfl, rfl, (List.length_map _).symm⟩ | exact ⟨rfl, rfl, by rw [List.length_map]; omega⟩) ?_ | refine Br.t ?_ | refine Br.f ?_)
                refine WP_ret ?_
                obtain rfl := Option.some.inj h
                repeat (first | refine Ob.mk (by first | rfl | omega | assumption | exact ⟨rfl, rfl, (List.length_map _).symm⟩ | exact ⟨rfl, rfl, by rw [List.length_map]; omega⟩) ?_ | refine Br.t ?_ | refine Br.f ?_)
                exact ⟨DLe.refl _, trivial⟩
              · replace h := bif_f b7 h
                repeat (first | refine Ob.mk (by first | rfl | omega | assumption | exact ⟨rfl, rfl, (List.length_map _).symm⟩ | exact ⟨rfl, rfl, by rw [List.length_map]; omega⟩) ?_ | refine Br.t ?_ | refine Br.f ?_)
                refine Br.mk (fun b8 => ?_) (fun b8 => ?_)
                · replace h := bif_t b8 h
                  repeat (first | refine Ob.mk (by first | rfl | omega | assumption | exact ⟨rfl, rfl, (List.length_map _).symm⟩ | exact ⟨rfl, rfl, by rw [List.length_map]; omega⟩) ?_ | refine Br.t ?_ | refine Br.f ?_)
                  refine WP_ret ?_
                  obtain rfl := Option.some.inj h
                  repeat (first | refine Ob.mk (by first | rfl | omega | assumption | exact ⟨rfl, rfl, (List.length_map _).symm⟩ | exact ⟨rfl, rfl, by rw [List.length_map]; omega⟩) ?_ | refine Br.t ?_ | refine Br.f ?_)
                  exact ⟨DLe.refl _, trivial⟩
                · replace h := bif_f b8 h
                  repeat (first | refine Ob.mk (by first | rfl | omega | assumption | exact ⟨rfl, rfl, (List.length_map _).symm⟩ | exact ⟨rfl, rfl, by rw [List.length_map]; omega⟩) ?_ | refine Br.t ?_ | refine Br.f ?_)
                  refine WP_ret ?_
                  obtain rfl := Option.some.inj h
                  repeat (first | refine Ob.mk (by first | rfl | omega | assumption | exact ⟨rfl, rfl, (List.length_map _).symm⟩ | exact ⟨rfl, rfl, by rw [List.length_map]; omega⟩) ?_ | refine Br.t ?_ | refine Br.f ?_)
                  exact ⟨DLe.refl _, trivial⟩
          · replace h := bif_f b5 h
            repeat (first | refine Ob.mk (by first | rfl | omega | assumption | exact ⟨rfl, rfl, (List.length_map _).symm⟩ | exact ⟨rfl, rfl, by rw [List.length_map]; omega⟩) ?_ | refine Br.t ?_ | refine Br.f ?_)
            refine Br.mk (fun b9 => ?_) (fun b9 => ?_)
            · replace h := bif_t b9 h
              repeat (first | refine Ob.mk (by first | rfl | omega | assumption | exact ⟨rfl, rfl, (List.length_map _).symm⟩ | exact ⟨rfl, rfl, by rw [List.length_map]; omega⟩) ?_ | refine Br.t ?_ | refine Br.f ?_)
              refine WP_ret ?_
              obtain rfl := Option.some.inj h
              repeat (first | refine Ob.mk (by first | rfl | omega | assumption | exact ⟨rfl, rfl, (List.length_map _).symm⟩ | exact ⟨rfl, rfl, by rw [List.length_map]; omega⟩) ?_ | refine Br.t ?_ | refine Br.f ?_)
              exact ⟨DLe.refl _, trivial⟩
            · replace h := bif_f b9 h
              repeat (first | refine Ob.mk (by first | rfl | omega | assumption | exact ⟨rfl, rfl, (List.length_map _).symm⟩ | exact ⟨rfl, rfl, by rw [List.length_map]; omega⟩) ?_ | refine Br.t ?_ | refine Br.f ?_)
              refine Br.mk (fun b10 => ?_) (fun b10 => ?_)
              · replace h := bif_t b10 h
                repeat (first | refine Ob.mk (by first | rfl | omega | assumption | exact ⟨rfl, rfl, (List.length_map _).symm⟩ | exact ⟨rfl, rfl, by rw [List.length_map]; omega⟩) ?_ | refine Br.t ?_ | refine Br.f ?_)
                refine WP_ret ?_
                obtain rfl := Option.some.inj h
                repeat (first | refine Ob.mk (by first | rfl | omega | assumption | exact ⟨rfl, rfl, (List.length_map _).symm⟩ | exact ⟨rfl, rfl, by rw [List.length_map]; omega⟩) ?_ | refine Br.t ?_ | refine Br.f ?_)
                exact ⟨DLe.refl _, trivial⟩
              · replace h := bif_f b10 h
                repeat (first | refine Ob.mk (by first | rfl | omega | assumption | exact ⟨rfl, rfl, (List.length_map _).symm⟩ | exact ⟨rfl, rfl, by rw [List.length_map]; omega⟩) ?_ | refine Br.t ?_ | refine Br.f ?_)
                refine WP_ret ?_
                obtain rfl := Option.some.inj h
                repeat (first | refine Ob.mk (by first | rfl | omega | assumption | exact ⟨rfl, rfl, (List.length_map _).symm⟩ | exact ⟨rfl, rfl, by rw [List.length_map]; omega⟩) ?_ | refine Br.t ?_ | refine Br.f ?_)
                exact ⟨DLe.refl _, trivial⟩
      · replace h := bif_f b3 h
        repeat (first | refine Ob.mk (by first | rfl | omega | assumption | exact ⟨rfl, rfl, (List.length_map _).symm⟩ | exact ⟨rfl, rfl, by rw [List.length_map]; omega⟩) ?_ | refine Br.t ?_ | refine Br.f ?_)
        refine Br.mk (fun b11 => ?_) (fun b11 => ?_)
        · replace h := bif_t b11 h
          repeat (first | refine Ob.mk (by first | rfl | omega | assumption | exact ⟨rfl, rfl, (List.length_map _).symm⟩ | exact ⟨rfl, rfl, by rw [List.length_map]; omega⟩) ?_ | refine Br.t ?_ | refine Br.f ?_)
          refine Br.mk (fun b12 => ?_) (fun b12 => ?_)
          · replace h := bif_t b12 h
            repeat (first | refine Ob.mk (by first | rfl | omega | assumption | exact ⟨rfl, rfl, (List.length_map _).symm⟩ | exact ⟨rfl, rfl, by rw [List.length_map]; omega⟩) ?_ | refine Br.t ?_ | refine Br.f ?_)
            refine WP_ret ?_
            obtain rfl := Option.some.inj h
            repeat (first | refine Ob.mk (by first | rfl | omega | assumption | exact ⟨rfl, rfl, (List.length_map _).symm⟩ | exact ⟨rfl, rfl, by rw [List.length_map]; omega⟩) ?_ | refine Br.t ?_ | refine Br.f ?_)
            exact ⟨DLe.refl _, trivial⟩
          · replace h := bif_f b12 h
            repeat (first | refine Ob.mk (by first | rfl | omega | assumption | exact ⟨rfl, rfl, (List.length_map _).symm⟩ | exact ⟨rfl, rfl, by rw [List.length_map]; omega⟩) ?_ | refine Br.t ?_ | refine Br.f ?_)
            refine Br.mk (fun b13 => ?_) (fun b13 => ?_)
            · replace h := bif_t b13 h
              repeat (first | refine Ob.mk (by first | rfl | omega | assumption | exact ⟨rfl, rfl, (List.length_map _).symm⟩ | exact ⟨rfl, rfl, by rw [List.length_map]; omega⟩) ?_ | refine Br.t ?_ | refine Br.f ?_)
              refine WP_ret ?_
              obtain rfl := Option.some.inj h
              repeat (first | refine Ob.mk (by first | rfl | omega | assumption | exact ⟨rfl, rfl, (List.length_map _).symm⟩ | exact ⟨rfl, rfl, by rw [List.length_map]; omega⟩) ?_ | refine Br.t ?_ | refine Br.f ?_)
              exact ⟨DLe.refl _, trivial⟩
            · replace h := bif_f b13 h
              repeat (first | refine Ob.mk (by first | rfl | omega | assumption | exact ⟨rfl, rfl, (List.length_map _).symm⟩ | exact ⟨rfl, rfl, by rw [List.length_map]; omega⟩) ?_ | refine Br.t ?_ | refine Br.f ?_)
              refine Br.mk (fun b14 => ?_) (fun b14 => ?_)
              · replace h := bif_t b14 h
                repeat (first | refine Ob.mk (by first | rfl | omega | assumption | exact ⟨rfl, rfl, (List.length_map _).symm⟩ | exact ⟨rfl, rfl, by rw [List.length_map]; omega⟩) ?_ | refine Br.t ?_ | refine Br.f ?_)
                refine WP_ret ?_
                obtain rfl := Option.some.inj h
                repeat (first | refine Ob.mk (by first | rfl | omega | assumption | exact ⟨rfl, rfl, (List.length_map _).symm⟩ | exact ⟨rfl, rfl, by rw [List.length_map]; omega⟩) ?_ | refine Br.t ?_ | refine Br.f ?_)
                exact ⟨DLe.refl _, trivial⟩
              · replace h := bif_f b14 h
                repeat (first | refine Ob.mk (by first | rfl | omega | assumption | exact ⟨rfl, rfl, (List.length_map _).symm⟩ | exact ⟨rfl, rfl, by rw [List.length_map]; omega⟩) ?_ | refine Br.t ?_ | refine Br.f ?_)
                refine WP_ret ?_
                obtain rfl := Option.some.inj h
                repeat (first | refine Ob.mk (by first | rfl | omega | assumption | exact ⟨rfl, rfl, (List.length_map _).symm⟩ | exact ⟨rfl, rfl, by rw [List.length_map]; omega⟩) ?_ | refine Br.t ?_ | refine Br.f ?_)
                exact ⟨DLe.refl _, trivial⟩
        · replace h := bif_f b11 h
          repeat (first | refine Ob.mk (by first | rfl | omega | assumption | exact ⟨rfl, rfl, (List.length_map _).symm⟩ | exact ⟨rfl, rfl, by rw [List.length_map]; omega⟩) ?_ | refine Br.t ?_ | refine Br.f ?_)
          refine Br.mk (fun b15 => ?_) (fun b15 => ?_)
          · replace h := bif_t b15 h
            repeat (first | refine Ob.mk (by first | rfl | omega | assumption | exact ⟨rfl, rfl, (List.length_map _).symm⟩ | exact ⟨rfl, rfl, by rw [List.length_map]; omega⟩) ?_ | refine Br.t ?_ | refine Br.f ?_)
            refine WP_ret ?_
            obtain rfl := Option.some.inj h
            repeat (first | refine Ob.mk (by first | rfl | omega | assumption | exact ⟨rfl, rfl, (List.length_map _).symm⟩ | exact ⟨rfl, rfl, by rw [List.length_map]; omega⟩) ?_ | refine Br.t ?_ | refine Br.f ?_)
            exact ⟨DLe.refl _, trivial⟩
          · replace h := bif_f b15 h
            repeat (first | refine Ob.mk (by first | rfl | omega | assumption | exact ⟨rfl, rfl, (List.length_map _).symm⟩ | exact ⟨rfl, rfl, by rw [List.length_map]; omega⟩) ?_ | refine Br.t ?_ | refine Br.f ?_)
            refine Br.mk (fun b16 => ?_) (fun b16 => ?_)
            · replace h := bif_t b16 h
              repeat (first | refine Ob.mk (by first | rfl | omega | assumption | exact ⟨rfl, rfl, (List.length_map _).symm⟩ | exact ⟨rfl, rfl, by rw [List.length_map]; omega⟩) ?_ | refine Br.t ?_ | refine Br.f ?_)
              refine WP_ret ?_
              obtain rfl := Option.some.inj h
              repeat (first | refine Ob.mk (by first | rfl | omega | assumption | exact ⟨rfl, rfl, (List.length_map _).symm⟩ | exact ⟨rfl, rfl, by rw [List.length_map]; omega⟩) ?_ | refine Br.t ?_ | refine Br.f ?_)
              exact ⟨DLe.refl _, trivial⟩
            · replace h := bif_f b16 h
              repeat (first | refine Ob.mk (by first | rfl | omega | assumption | exact ⟨rfl, rfl, (List.length_map _).symm⟩ | exact ⟨rfl, rfl, by rw [List.length_map]; omega⟩) ?_ | refine Br.t ?_ | refine Br.f ?_)
              refine WP_ret ?_
              obtain rfl := Option.some.inj h
              repeat (first | refine Ob.mk (by first | rfl | omega | assumption | exact ⟨rfl, rfl, (List.length_map _).symm⟩ | exact ⟨rfl, rfl, by rw [List.length_map]; omega⟩) ?_ | refine Br.t ?_ | refine Br.f ?_)
              exact ⟨DLe.refl _, trivial⟩
  · replace h := bif_f b1 h
    repeat (first | refine Ob.mk (by first | rfl | omega | assumption | exact ⟨rfl, rfl, (List.length_map _).symm⟩ | exact ⟨rfl, rfl, by rw [List.length_map]; omega⟩) ?_ | refine Br.t ?_ | refine Br.f ?_)
    refine Br.mk (fun b17 => ?_) (fun b17 => ?_)
    · replace h := bif_t b17 h
      repeat (first | refine Ob.mk (by first | rfl | omega | assumption | exact ⟨rfl, rfl, (List.length_map _).symm⟩ | exact ⟨rfl, rfl, by rw [List.length_map]; omega⟩) ?_ | refine Br.t ?_ | refine Br.f ?_)
      refine Br.mk (fun b18 => ?_) (fun b18 => ?_)
      · replace h := bif_t b18 h
        repeat (first | refine Ob.mk (by first | rfl | omega | assumption | exact ⟨rfl, rfl, (List.length_map _).symm⟩ | exact ⟨rfl, rfl, by rw [List.length_map]; omega⟩) ?_ | refine Br.t ?_ | refine Br.f ?_)
        refine WP_ret ?_
        obtain rfl := Option.some.inj h
        repeat (first | refine Ob.mk (by first | rfl | omega | assumption | exact ⟨rfl, rfl, (List.length_map _).symm⟩ | exact ⟨rfl, rfl, by rw [List.length_map]; omega⟩) ?_ | refine Br.t ?_ | refine Br.f ?_)
        exact ⟨DLe.refl _, trivial⟩
      · replace h := bif_f b18 h
        repeat (first | refine Ob.mk (by first | rfl | omega | assumption | exact ⟨rfl, rfl, (List.length_map _).symm⟩ | exact ⟨rfl, rfl, by rw [List.length_map]; omega⟩) ?_ | refine Br.t ?_ | refine Br.f ?_)
        refine Br.mk (fun b19 => ?_) (fun b19 => ?_)
        · replace h := bif_t b19 h
          repeat (first | refine Ob.mk (by first | rfl | omega | assumption | exact ⟨rfl, rfl, (List.length_map _).symm⟩ | exact ⟨rfl, rfl, by rw [List.length_map]; omega⟩) ?_ | refine Br.t ?_ | refine Br.f ?_)
          refine Br.mk (fun b20 => ?_) (fun b20 => ?_)
          · replace h := bif_t b20 h
            repeat (first | refine Ob.mk (by first | rfl | omega | assumption | exact ⟨rfl, rfl, (List.length_map _).symm⟩ | exact ⟨rfl, rfl, by rw [List.length_map]; omega⟩) ?_ | refine Br.t ?_ | refine Br.f ?_)
            refine WP_ret ?_
            obtain rfl := Option.some.inj h
            repeat (first | refine Ob.mk (by first | rfl | omega | assumption | exact ⟨rfl, rfl, (List.length_map _).symm⟩ | exact ⟨rfl, rfl, by rw [List.length_map]; omega⟩) ?_ | refine Br.t ?_ | refine Br.f ?_)
            exact ⟨DLe.refl _, trivial⟩
          · replace h := bif_f b20 h
            repeat (first | refine Ob.mk (by first | rfl | omega | assumption | exact ⟨rfl, rfl, (List.length_map _).symm⟩ | exact ⟨rfl, rfl, by rw [List.length_map]; omega⟩) ?_ | refine Br.t ?_ | refine Br.f ?_)
            refine Br.mk (fun b21 => ?_) (fun b21 => ?_)
            · replace h := bif_t b21 h
              repeat (first | refine Ob.mk (by first | rfl | omega | assumption | exact ⟨rfl, rfl, (List.length_map _).symm⟩ | exact ⟨rfl, rfl, by rw [List.length_map]; omega⟩) ?_ | refine Br.t ?_ | refine Br.f ?_)
              refine WP_ret ?_
              obtain rfl := Option.some.inj h
              repeat (first | refine Ob.mk (by first | rfl | omega | assumption | exact ⟨rfl, rfl, (List.length_map _).symm⟩ | exact ⟨rfl, rfl, by rw [List.length_map]; omega⟩) ?_ | refine Br.t ?_ | refine Br.f ?_)
              exact ⟨DLe.refl _, trivial⟩
            · replace h := bif_f b21 h
              repeat (first | refine Ob.mk (by first | rfl | omega | assumption | exact ⟨rfl, rfl, (List.length_map _).symm⟩ | exact ⟨rfl, rfl, by rw [List.length_map]; omega⟩) ?_ | refine Br.t ?_ | refine Br.f ?_)
              refine Br.mk (fun b22 => ?_) (fun b22 => ?_)
              · replace h := bif_t b22 h
                repeat (first | refine Ob.mk (by first | rfl | omega | assumption | exact ⟨rfl, rfl, (List.length_map _).symm⟩ | exact ⟨rfl, rfl, by rw [List.length_map]; omega⟩) ?_ | refine Br.t ?_ | refine Br.f ?_)
                refine WP_ret ?_
                obtain rfl := Option.some.inj h
                repeat (first | refine Ob.mk (by first | rfl | omega | assumption | exact ⟨rfl, rfl, (List.length_map _).symm⟩ | exact ⟨rfl, rfl, by rw [List.length_map]; omega⟩) ?_ | refine Br.t ?_ | refine Br.f ?_)
                exact ⟨DLe.refl _, trivial⟩
              · replace h := bif_f b22 h
                repeat (first | refine Ob.mk (by first | rfl | omega | assumption | exact ⟨rfl, rfl, (List.length_map _).symm⟩ | exact ⟨rfl, rfl, by rw [List.length_map]; omega⟩) ?_ | refine Br.t ?_ | refine Br.f ?_)
                refine WP_ret ?_
                obtain rfl := Option.some.inj h
                repeat (first | refine Ob.mk (by first | rfl | omega | assumption | exact ⟨rfl, rfl, (List.length_map _).symm⟩ | exact ⟨rfl, rfl, by rw [List.length_map]; omega⟩) ?_ | refine Br.t ?_ | refine Br.f ?_)
                exact ⟨DLe.refl _, trivial⟩
        · replace h := bif_f b19 h
          repeat (first | refine Ob.mk (by first | rfl | omega | assumption | exact ⟨rfl, rfl, (List.length_map _).symm⟩ | exact ⟨rfl, rfl, by rw [List.length_map]; omega⟩) ?_ | refine Br.t ?_ | refine Br.f ?_)
          refine Br.mk (fun b23 => ?_) (fun b23 => ?_)
          · replace h := bif_t b23 h
            repeat (first | refine Ob.mk (by first | rfl | omega | assumption | exact ⟨rfl, rfl, (List.length_map _).symm⟩ | exact ⟨rfl, rfl, by rw [List.length_map]; omega⟩) ?_ | refine Br.t ?_ | refine Br.f ?_)
            refine WP_ret ?_
            obtain rfl := Option.some.inj h
            repeat (first | refine Ob.mk (by first | rfl | omega | assumption | exact ⟨rfl, rfl, (List.length_map _).symm⟩ | exact ⟨rfl, rfl, by rw [List.length_map]; omega⟩) ?_ | refine Br.t ?_ | refine Br.f ?_)
            exact ⟨DLe.refl _, trivial⟩
          · replace h := bif_f b23 h
            repeat (first | refine Ob.mk (by first | rfl | omega | assumption | exact ⟨rfl, rfl, (List.length_map _).symm⟩ | exact ⟨rfl, rfl, by rw [List.length_map]; omega⟩) ?_ | refine Br.t ?_ | refine Br.f ?_)
            refine Br.mk (fun b24 => ?_) (fun b24 => ?_)
            · replace h := bif_t b24 h
              repeat (first | refine Ob.mk (by first | rfl | omega | assumption | exact ⟨rfl, rfl, (List.length_map _).symm⟩ | exact ⟨rfl, rfl, by rw [List.length_map]; omega⟩) ?_ | refine Br.t ?_ | refine Br.f ?_)
              refine WP_ret ?_
              obtain rfl := Option.some.inj h
              repeat (first | refine Ob.mk (by first | rfl | omega | assumption | exact ⟨rfl, rfl, (List.length_map _).symm⟩ | exact ⟨rfl, rfl, by rw [List.length_map]; omega⟩) ?_ | refine Br.t ?_ | refine Br.f ?_)
              exact ⟨DLe.refl _, trivial⟩
            · replace h := bif_f b24 h
              repeat (first | refine Ob.mk (by first | rfl | omega | assumption | exact ⟨rfl, rfl, (List.length_map _).symm⟩ | exact ⟨rfl, rfl, by rw [List.length_map]; omega⟩) ?_ | refine Br.t ?_ | refine Br.f ?_)
              refine WP_ret ?_
              obtain rfl := Option.some.inj h
              repeat (first | refine Ob.mk (by first | rfl | omega | assumption | exact ⟨rfl, rfl, (List.length_map _).symm⟩ | exact ⟨rfl, rfl, by rw [List.length_map]; omega⟩) ?_ | refine Br.t ?_ | refine Br.f ?_)
              exact ⟨DLe.refl _, trivial⟩
    · replace h := bif_f b17 h
      repeat (first | refine Ob.mk (by first | rfl | omega | assumption | exact ⟨rfl, rfl, (List.length_map _).symm⟩ | exact ⟨rfl, rfl, by rw [List.length_map]; omega⟩) ?_ | refine Br.t ?_ | refine Br.f ?_)
      refine Br.mk (fun b25 => ?_) (fun b25 => ?_)
      · replace h := bif_t b25 h
        repeat (first | refine Ob.mk (by first | rfl | omega | assumption | exact ⟨rfl, rfl, (List.length_map _).symm⟩ | exact ⟨rfl, rfl, by rw [List.length_map]; omega⟩) ?_ | refine Br.t ?_ | refine Br.f ?_)
        refine Br.mk (fun b26 => ?_) (fun b26 => ?_)
        · replace h := bif_t b26 h
          repeat (first | refine Ob.mk (by first | rfl | omega | assumption | exact ⟨rfl, rfl, (List.length_map _).symm⟩ | exact ⟨rfl, rfl, by rw [List.length_map]; omega⟩) ?_ | refine Br.t ?_ | refine Br.f ?_)
          refine WP_ret ?_
          obtain rfl := Option.some.inj h
          repeat (first | refine Ob.mk (by first | rfl | omega | assumption | exact ⟨rfl, rfl, (List.length_map _).symm⟩ | exact ⟨rfl, rfl, by rw [List.length_map]; omega⟩) ?_ | refine Br.t ?_ | refine Br.f ?_)
          exact ⟨DLe.refl _, trivial⟩
        · replace h := bif_f b26 h
          repeat (first | refine Ob.mk (by first | rfl | omega | assumption | exact ⟨rfl, rfl, (List.length_map _).symm⟩ | exact ⟨rfl, rfl, by rw [List.length_map]; omega⟩) ?_ | refine Br.t ?_ | refine Br.f ?_)
          refine Br.mk (fun b27 => ?_) (fun b27 => ?_)
          · replace h := bif_t b27 h
            repeat (first | refine Ob.mk (by first | rfl | omega | assumption | exact ⟨rfl, rfl, (List.length_map _).symm⟩ | exact ⟨rfl, rfl, by rw [List.length_map]; omega⟩) ?_ | refine Br.t ?_ | refine Br.f ?_)
            refine WP_ret ?_
            obtain rfl := Option.some.inj h
            repeat (first | refine Ob.mk (by first | rfl | omega | assumption | exact ⟨rfl, rfl, (List.length_map _).symm⟩ | exact ⟨rfl, rfl, by rw [List.length_map]; omega⟩) ?_ | refine Br.t ?_ | refine Br.f ?_)
            exact ⟨DLe.refl _, trivial⟩
          · replace h := bif_f b27 h
            repeat (first | refine Ob.mk (by first | rfl | omega | assumption | exact ⟨rfl, rfl, (List.length_map _).symm⟩ | exact ⟨rfl, rfl, by rw [List.length_map]; omega⟩) ?_ | refine Br.t ?_ | refine Br.f ?_)
            refine Br.mk (fun b28 => ?_) (fun b28 => ?_)
            · replace h := bif_t b28 h
              repeat (first | refine Ob.mk (by first | rfl | omega | assumption | exact ⟨rfl, rfl, (List.length_map _).symm⟩ | exact ⟨rfl, rfl, by rw [List.length_map]; omega⟩) ?_ | refine Br.t ?_ | refine Br.f ?_)
              refine WP_ret ?_
              obtain rfl := Option.some.inj h
              repeat (first | refine Ob.mk (by first | rfl | omega | assumption | exact ⟨rfl, rfl, (List.length_map _).symm⟩ | exact ⟨rfl, rfl, by rw [List.length_map]; omega⟩) ?_ | refine Br.t ?_ | refine Br.f ?_)
              exact ⟨DLe.refl _, trivial⟩
            · replace h := bif_f b28 h
              repeat (first | refine Ob.mk (by first | rfl | omega | assumption | exact ⟨rfl, rfl, (List.length_map _).symm⟩ | exact ⟨rfl, rfl, by rw [List.length_map]; omega⟩) ?_ | refine Br.t ?_ | refine Br.f ?_)
              refine WP_ret ?_
              obtain rfl := Option.some.inj h
              repeat (first | refine Ob.mk (by first | rfl | omega | assumption | exact ⟨rfl, rfl, (List.length_map _).symm⟩ | exact ⟨rfl, rfl, by rw [List.length_map]; omega⟩) ?_ | refine Br.t ?_ | refine Br.f ?_)
              exact ⟨DLe.refl _, trivial⟩
      · replace h := bif_f b25 h
        repeat (first | refine Ob.mk (by first | rfl | omega | assumption | exact ⟨rfl, rfl, (List.length_map _).symm⟩ | exact ⟨rfl, rfl, by rw [List.length_map]; omega⟩) ?_ | refine Br.t ?_ | refine Br.f ?_)
        refine Br.mk (fun b29 => ?_) (fun b29 => ?_)
        · replace h := bif_t b29 h
          repeat (first | refine Ob.mk (by first | rfl | omega | assumption | exact ⟨rfl, rfl, (List.length_map _).symm⟩ | exact ⟨rfl, rfl, by rw [List.length_map]; omega⟩) ?_ | refine Br.t ?_ | refine Br.f ?_)
          refine WP_ret ?_
          obtain rfl := Option.some.inj h
          repeat (first | refine Ob.mk (by first | rfl | omega | assumption | exact ⟨rfl, rfl, (List.length_map _).symm⟩ | exact ⟨rfl, rfl, by rw [List.length_map]; omega⟩) ?_ | refine Br.t ?_ | refine Br.f ?_)
          exact ⟨DLe.refl _, trivial⟩
        · replace h := bif_f b29 h
          repeat (first | refine Ob.mk (by first | rfl | omega | assumption | exact ⟨rfl, rfl, (List.length_map _).symm⟩ | exact ⟨rfl, rfl, by rw [List.length_map]; omega⟩) ?_ | refine Br.t ?_ | refine Br.f ?_)
          refine Br.mk (fun b30 => ?_) (fun b30 => ?_)
          · replace h := bif_t b30 h
            repeat (first | refine Ob.mk (by first | rfl | omega | assumption | exact ⟨rfl, rfl, (List.length_map _).symm⟩ | exact ⟨rfl, rfl, by rw [List.length_map]; omega⟩) ?_ | refine Br.t ?_ | refine Br.f ?_)
            refine WP_ret ?_
            obtain rfl := Option.some.inj h
            repeat (first | refine Ob.mk (by first | rfl | omega | assumption | exact ⟨rfl, rfl, (List.length_map _).symm⟩ | exact ⟨rfl, rfl, by rw [List.length_map]; omega⟩) ?_ | refine Br.t ?_ | refine Br.f ?_)
            exact ⟨DLe.refl _, trivial⟩
          · replace h := bif_f b30 h
            repeat (first | refine Ob.mk (by first | rfl | omega | assumption | exact ⟨rfl, rfl, (List.length_map _).symm⟩ | exact ⟨rfl, rfl, by rw [List.length_map]; omega⟩) ?_ | refine Br.t ?_ | refine Br.f ?_)
            refine WP_ret ?_
            obtain rfl := Option.some.inj h
            repeat (first | refine Ob.mk (by first | rfl | omega | assumption | exact ⟨rfl, rfl, (List.length_map _).symm⟩ | exact ⟨rfl, rfl, by rw [List.length_map]; omega⟩) ?_ | refine Br.t ?_ | refine Br.f ?_)
            exact ⟨DLe.refl _, trivial⟩

/-! ### newel/coord.Id -/
def g_coord_Id.l24b (n : Nat) (rec24 : Str → Option (Bool)) (x25 : Str) : Option (Bool) :=
  chk (0 ≤ (0 : Int) ∧ 0 < (x25.size : Int)) <|
  (g_coord_letter n (byteAt x25 0)).bind fun y30 =>
  bif (!y30) then (
    some false
  ) else (
    chk (0 ≤ (1 : Int) ∧ 1 ≤ (x25.size : Int)) <|
    bif (!((x25.extract 1 x25.size).toList == emp.toList)) then (
      rec24 (x25.extract 1 x25.size)
    ) else (
      some true
    )
  )
def g_coord_Id.l24 (n : Nat) : Nat → Str → Option (Bool)
  | 0, _ => none
  | m + 1, x25 => g_coord_Id.l24b n (g_coord_Id.l24 n m) x25
def g_coord_Id (n : Nat) (a0 : Str) : Option (Bool) :=
  bif (a0.toList == emp.toList) then (
    some false
  ) else (
    bif (decide ((a0.size : Int) > 500)) then (
      some false
    ) else (
      g_coord_Id.l24 n n a0
    )
  )
theorem g_coord_Id.ok (n : Nat) (a0 : Str) (r : Bool) (h : g_coord_Id n a0 = some r) : Impl Tryz.prog 50 [.one (dstr a0)] [.one (dbool r)] := by
  refine impl_wp tabOk Tryz.func50 rfl rfl (by kernel_rfl) ?_
  unfold g_coord_Id at h
  refine WP_seq ?_
  refine vcc_sound _ _ _ tabOk (by exact rfl) ?_
  repeat (first | refine Ob.mk (by first | rfl | omega | assumption | exact ⟨rfl, rfl, (List.length_map _).symm⟩ | exact ⟨rfl, rfl, by rw [List.length_map]; omega⟩) ?_ | refine Br.t ?_ | refine Br.f ?_)
  refine WP_scope_cut (α := {x : Nat × Str // g_coord_Id.l24 n x.1 x.2 = some r}) 0 (fun x => ofL [(0, .str x.1.2)]) (fun x => []) (fun x => x.1.1) (by rfl) ?_ (fun again => ?_)
  rotate_left
  · refine WP_seq ?_
    refine WP_seq ?_
    refine vcc_sound _ _ _ tabOk (by exact rfl) ?_
    repeat (first | refine Ob.mk (by first | rfl | omega | assumption | exact ⟨rfl, rfl, (List.length_map _).symm⟩ | exact ⟨rfl, rfl, by rw [List.length_map]; omega⟩) ?_ | refine Br.t ?_ | refine Br.f ?_)
    refine Br.mk (fun b36 => ?_) (fun b36 => ?_)
    · replace h := bif_t b36 h
      repeat (first | refine Ob.mk (by first | rfl | omega | assumption | exact ⟨rfl, rfl, (List.length_map _).symm⟩ | exact ⟨rfl, rfl, by rw [List.length_map]; omega⟩) ?_ | refine Br.t ?_ | refine Br.f ?_)
      refine vcc_sound _ _ _ tabOk (by exact rfl) ?_
      repeat (first | refine Ob.mk (by first | rfl | omega | assumption | exact ⟨rfl, rfl, (List.length_map _).symm⟩ | exact ⟨rfl, rfl, by rw [List.length_map]; omega⟩) ?_ | refine Br.t ?_ | refine Br.f ?_)
      refine WP_seq ?_
      refine vcc_sound _ _ _ tabOk (by exact rfl) ?_
      repeat (first | refine Ob.mk (by first | rfl | omega | assumption | exact ⟨rfl, rfl, (List.length_map _).symm⟩ | exact ⟨rfl, rfl, by rw [List.length_map]; omega⟩) ?_ | refine Br.t ?_ | refine Br.f ?_)
      refine WP_ret ?_
      obtain rfl := Option.some.inj h
      repeat (first | refine Ob.mk (by first | rfl | omega | assumption | exact ⟨rfl, rfl, (List.length_map _).symm⟩ | exact ⟨rfl, rfl, by rw [List.length_map]; omega⟩) ?_ | refine Br.t ?_ | refine Br.f ?_)
      exact ⟨DLe.refl _, trivial⟩
    · replace h := bif_f b36 h
      repeat (first | refine Ob.mk (by first | rfl | omega | assumption | exact ⟨rfl, rfl, (List.length_map _).symm⟩ | exact ⟨rfl, rfl, by rw [List.length_map]; omega⟩) ?_ | refine Br.t ?_ | refine Br.f ?_)
      refine vcc_sound _ _ _ tabOk (by exact rfl) ?_
      repeat (first | refine Ob.mk (by first | rfl | omega | assumption | exact ⟨rfl, rfl, (List.length_map _).symm⟩ | exact ⟨rfl, rfl, by rw [List.length_map]; omega⟩) ?_ | refine Br.t ?_ | refine Br.f ?_)
      refine Br.mk (fun b37 => ?_) (fun b37 => ?_)
      · replace h := bif_t b37 h
        refine WP_seq ?_
        refine vcc_sound _ _ _ tabOk (by exact rfl) ?_
        repeat (first | refine Ob.mk (by first | rfl | omega | assumption | exact ⟨rfl, rfl, (List.length_map _).symm⟩ | exact ⟨rfl, rfl, by rw [List.length_map]; omega⟩) ?_ | refine Br.t ?_ | refine Br.f ?_)
        refine WP_ret ?_
        obtain rfl := Option.some.inj h
        repeat (first | refine Ob.mk (by first | rfl | omega | assumption | exact ⟨rfl, rfl, (List.length_map _).symm⟩ | exact ⟨rfl, rfl, by rw [List.length_map]; omega⟩) ?_ | refine Br.t ?_ | refine Br.f ?_)
        exact ⟨DLe.refl _, trivial⟩
      · replace h := bif_f b37 h
        refine WP_skip ?_
        repeat (first | refine Ob.mk (by first | rfl | omega | assumption | exact ⟨rfl, rfl, (List.length_map _).symm⟩ | exact ⟨rfl, rfl, by rw [List.length_map]; omega⟩) ?_ | refine Br.t ?_ | refine Br.f ?_)
        exact again ⟨(n, a0), h⟩ _ _ (Sub.ofL _ _ (Nat.zero_le _) ⟨rfl, rfl, trivial⟩ rfl rfl)
  rintro ⟨⟨m24, x25⟩, h⟩
  cases m24 with
  | zero => exact nomatch (show (none : Option (Bool)) = some r from h)
  | succ m24 =>
    replace h : g_coord_Id.l24b n (g_coord_Id.l24 n m24) x25 = some r := h
    unfold g_coord_Id.l24b at h
    try dsimp only
    refine WP_seq ?_
    refine WP_seq ?_
    refine vcc_sound _ _ _ tabOk (by exact rfl) ?_
    obtain ⟨c29, h⟩ := chk_some h
    obtain ⟨y30, hy30, h⟩ := bind_some h
    repeat (first | refine Ob.mk (by first | rfl | omega | assumption | exact ⟨rfl, rfl, (List.length_map _).symm⟩ | exact ⟨rfl, rfl, by rw [List.length_map]; omega⟩) ?_ | refine Br.t ?_ | refine Br.f ?_)
    refine CallD.mk _ _ (g_coord_letter.ok n (byteAt x25 0) y30 hy30) (by exact ⟨DLe.refl _, trivial⟩) ?_
    repeat (first | refine Ob.mk (by first | rfl | omega | assumption | exact ⟨rfl, rfl, (List.length_map _).symm⟩ | exact ⟨rfl, rfl, by rw [List.length_map]; omega⟩) ?_ | refine Br.t ?_ | refine Br.f ?_)
    refine vcc_sound _ _ _ tabOk (by exact rfl) ?_
    repeat (first | refine Ob.mk (by first | rfl | omega | assumption | exact ⟨rfl, rfl, (List.length_map _).symm⟩ | exact ⟨rfl, rfl, by rw [List.length_map]; omega⟩) ?_ | refine Br.t ?_ | refine Br.f ?_)
    refine Br.mk (fun b31 => ?_) (fun b31 => ?_)
    · replace h := bif_t b31 h
      refine WP_seq ?_
      refine vcc_sound _ _ _ tabOk (by exact rfl) ?_
      repeat (first | refine Ob.mk (by first | rfl | omega | assumption | exact ⟨rfl, rfl, (List.length_map _).symm⟩ | exact ⟨rfl, rfl, by rw [List.length_map]; omega⟩) ?_ | refine Br.t ?_ | refine Br.f ?_)
      refine WP_ret ?_
      obtain rfl := Option.some.inj h
      repeat (first | refine Ob.mk (by first | rfl | omega | assumption | exact ⟨rfl, rfl, (List.length_map _).symm⟩ | exact ⟨rfl, rfl, by rw [List.length_map]; omega⟩) ?_ | refine Br.t ?_ | refine Br.f ?_)
      exact ⟨DLe.refl _, trivial⟩
    · replace h := bif_f b31 h
      refine WP_skip ?_
      refine WP_seq ?_
      refine vcc_sound _ _ _ tabOk (by exact rfl) ?_
      obtain ⟨c32, h⟩ := chk_some h
      repeat (first | refine Ob.mk (by first | rfl | omega | assumption | exact ⟨rfl, rfl, (List.length_map _).symm⟩ | exact ⟨rfl, rfl, by rw [List.length_map]; omega⟩) ?_ | refine Br.t ?_ | refine Br.f ?_)
      refine WP_seq ?_
      refine WP_seq ?_
      refine vcc_sound _ _ _ tabOk (by exact rfl) ?_
      repeat (first | refine Ob.mk (by first | rfl | omega | assumption | exact ⟨rfl, rfl, (List.length_map _).symm⟩ | exact ⟨rfl, rfl, by rw [List.length_map]; omega⟩) ?_ | refine Br.t ?_ | refine Br.f ?_)
      refine vcc_sound _ _ _ tabOk (by exact rfl) ?_
      repeat (first | refine Ob.mk (by first | rfl | omega | assumption | exact ⟨rfl, rfl, (List.length_map _).symm⟩ | exact ⟨rfl, rfl, by rw [List.length_map]; omega⟩) ?_ | refine Br.t ?_ | refine Br.f ?_)
      refine Br.mk (fun b33 => ?_) (fun b33 => ?_)
      · replace h := bif_t b33 h
        refine WP_goto ?_
        repeat (first | refine Ob.mk (by first | rfl | omega | assumption | exact ⟨rfl, rfl, (List.length_map _).symm⟩ | exact ⟨rfl, rfl, by rw [List.length_map]; omega⟩) ?_ | refine Br.t ?_ | refine Br.f ?_)
        exact ⟨rfl, ⟨⟨(m24, (x25.extract 1 x25.size)), h⟩, Nat.lt_succ_self _, Sub.ofL _ _ (Nat.zero_le _) ⟨rfl, rfl, trivial⟩ rfl rfl⟩⟩
      · replace h := bif_f b33 h
        refine WP_skip ?_
        refine WP_seq ?_
        refine vcc_sound _ _ _ tabOk (by exact rfl) ?_
        repeat (first | refine Ob.mk (by first | rfl | omega | assumption | exact ⟨rfl, rfl, (List.length_map _).symm⟩ | exact ⟨rfl, rfl, by rw [List.length_map]; omega⟩) ?_ | refine Br.t ?_ | refine Br.f ?_)
        refine WP_ret ?_
        obtain rfl := Option.some.inj h
        repeat (first | refine Ob.mk (by first | rfl | omega | assumption | exact ⟨rfl, rfl, (List.length_map _).symm⟩ | exact ⟨rfl, rfl, by rw [List.length_map]; omega⟩) ?_ | refine Br.t ?_ | refine Br.f ?_)
        exact ⟨DLe.refl _, trivial⟩

/-! ### newel/newelhelp.Plain[newel/api.Coord]$1 -/
def g_newelhelp_Plain_api_Coord_1 (n : Nat) (a0 : Coord) (a1 : Coord) : Option (Bool) :=
  some (eqStrs [a0.group, a0.name, a0.version] [a1.group, a1.name, a1.version])
theorem g_newelhelp_Plain_api_Coord_1.ok (n : Nat) (a0 : Coord) (a1 : Coord) (r : Bool) (h : g_newelhelp_Plain_api_Coord_1 n a0 a1 = some r) : Impl Tryz.prog 39 [.agg (encCoord a0), .agg (encCoord a1)] [.one (dbool r)] := by
  refine impl_wp tabOk Tryz.func39 rfl rfl (by kernel_rfl) ?_
  unfold g_newelhelp_Plain_api_Coord_1 at h
  refine WP_seq ?_
  refine vcc_sound _ _ _ tabOk (by exact rfl) ?_
  repeat (first | refine Ob.mk (by first | rfl | omega | assumption | exact ⟨rfl, rfl, (List.length_map _).symm⟩ | exact ⟨rfl, rfl, by rw [List.length_map]; omega⟩) ?_ | refine Br.t ?_ | refine Br.f ?_)
  refine WP_seq ?_
  refine vcc_sound _ _ _ tabOk (by exact rfl) ?_
  repeat (first | refine Ob.mk (by first | rfl | omega | assumption | exact ⟨rfl, rfl, (List.length_map _).symm⟩ | exact ⟨rfl, rfl, by rw [List.length_map]; omega⟩) ?_ | refine Br.t ?_ | refine Br.f ?_)
  refine WP_ret ?_
  obtain rfl := Option.some.inj h
  repeat (first | refine Ob.mk (by first | rfl | omega | assumption | exact ⟨rfl, rfl, (List.length_map _).symm⟩ | exact ⟨rfl, rfl, by rw [List.length_map]; omega⟩) ?_ | refine Br.t ?_ | refine Br.f ?_)
  exact ⟨DLe.refl _, trivial⟩

/-! ### newel/newelhelp.Same[newel/api.Coord] -/
def g_newelhelp_Same_api_Coord__newelhelp_Plain_api_Coord_1.k20 (n : Nat) : Option (Bool) :=
  some true
def g_newelhelp_Same_api_Coord__newelhelp_Plain_api_Coord_1.l20b (n : Nat) (a0 : (List Coord)) (a1 : (List Coord)) (rec20 : Int → Option (Bool)) (x21 : Int) : Option (Bool) :=
  bif (decide (x21 < (a0.length : Int))) then (
    chk (0 ≤ x21 ∧ x21 < (a0.length : Int)) <|
    chk (0 ≤ x21 ∧ x21 < (a1.length : Int)) <|
    (g_newelhelp_Plain_api_Coord_1 n (a0.getD x21.toNat zCoord) (a1.getD x21.toNat zCoord)).bind fun y26 =>
    bif (!y26) then (
      some false
    ) else (
      chk (in64 (x21 + 1)) <|
      rec20 (x21 + 1)
    )
  ) else (
    g_newelhelp_Same_api_Coord__newelhelp_Plain_api_Coord_1.k20 n
  )
def g_newelhelp_Same_api_Coord__newelhelp_Plain_api_Coord_1.l20 (n : Nat) (a0 : (List Coord)) (a1 : (List Coord)) : Nat → Int → Option (Bool)
  | 0, _ => none
  | m + 1, x21 => g_newelhelp_Same_api_Coord__newelhelp_Plain_api_Coord_1.l20b n a0 a1 (g_newelhelp_Same_api_Coord__newelhelp_Plain_api_Coord_1.l20 n a0 a1 m) x21
def g_newelhelp_Same_api_Coord__newelhelp_Plain_api_Coord_1 (n : Nat) (a0 : (List Coord)) (a1 : (List Coord)) : Option (Bool) :=
  bif ((a0.length : Int) != (a1.length : Int)) then (
    some false
  ) else (
    g_newelhelp_Same_api_Coord__newelhelp_Plain_api_Coord_1.l20 n a0 a1 n 0
  )
theorem g_newelhelp_Same_api_Coord__newelhelp_Plain_api_Coord_1.ok (n : Nat) (a0 : (List Coord)) (a1 : (List Coord)) (r : Bool) (h : g_newelhelp_Same_api_Coord__newelhelp_Plain_api_Coord_1 n a0 a1 = some r) : Impl Tryz.prog 38 [.one (.tl Coord 3 encCoord zCoord a0), .one (.tl Coord 3 encCoord zCoord a1), .one (.sc (.func (.func 39) #[] #[]))] [.one (dbool r)] := by
  refine impl_wp tabOk Tryz.func38 rfl rfl (by kernel_rfl) ?_
  unfold g_newelhelp_Same_api_Coord__newelhelp_Plain_api_Coord_1 at h
  refine WP_seq ?_
  refine vcc_sound _ _ _ tabOk (by exact rfl) ?_
  repeat (first | refine Ob.mk (by first | rfl | omega | assumption | exact ⟨rfl, rfl, (List.length_map _).symm⟩ | exact ⟨rfl, rfl, by rw [List.length_map]; omega⟩) ?_ | refine Br.t ?_ | refine Br.f ?_)
  refine WP_seq ?_
  refine WP_seq ?_
  refine vcc_sound _ _ _ tabOk (by exact rfl) ?_
  repeat (first | refine Ob.mk (by first | rfl | omega | assumption | exact ⟨rfl, rfl, (List.length_map _).symm⟩ | exact ⟨rfl, rfl, by rw [List.length_map]; omega⟩) ?_ | refine Br.t ?_ | refine Br.f ?_)
  refine vcc_sound _ _ _ tabOk (by exact rfl) ?_
  repeat (first | refine Ob.mk (by first | rfl | omega | assumption | exact ⟨rfl, rfl, (List.length_map _).symm⟩ | exact ⟨rfl, rfl, by rw [List.length_map]; omega⟩) ?_ | refine Br.t ?_ | refine Br.f ?_)
  refine Br.mk (fun b2 => ?_) (fun b2 => ?_)
  · replace h := bif_t b2 h
    refine WP_seq ?_
    refine vcc_sound _ _ _ tabOk (by exact rfl) ?_
    repeat (first | refine Ob.mk (by first | rfl | omega | assumption | exact ⟨rfl, rfl, (List.length_map _).symm⟩ | exact ⟨rfl, rfl, by rw [List.length_map]; omega⟩) ?_ | refine Br.t ?_ | refine Br.f ?_)
    refine WP_ret ?_
    obtain rfl := Option.some.inj h
    repeat (first | refine Ob.mk (by first | rfl | omega | assumption | exact ⟨rfl, rfl, (List.length_map _).symm⟩ | exact ⟨rfl, rfl, by rw [List.length_map]; omega⟩) ?_ | refine Br.t ?_ | refine Br.f ?_)
    exact ⟨DLe.refl _, trivial⟩
  · replace h := bif_f b2 h
    refine WP_skip ?_
    refine WP_seq ?_
    refine WP_seq ?_
    refine vcc_sound _ _ _ tabOk (by exact rfl) ?_
    repeat (first | refine Ob.mk (by first | rfl | omega | assumption | exact ⟨rfl, rfl, (List.length_map _).symm⟩ | exact ⟨rfl, rfl, by rw [List.length_map]; omega⟩) ?_ | refine Br.t ?_ | refine Br.f ?_)
    refine WP_cutQ (α := {p : Unit // g_newelhelp_Same_api_Coord__newelhelp_Plain_api_Coord_1.k20 n = some r}) (fun p => ofL []) (fun p => []) (WP_block (WP_loop (α := {x : Nat × Int // g_newelhelp_Same_api_Coord__newelhelp_Plain_api_Coord_1.l20 n a0 a1 x.1 x.2 = some r}) (fun x => ofL [(0, .d (.tl Coord 3 encCoord zCoord a0)), (1, .d (.tl Coord 3 encCoord zCoord a1)), (2, fnAV 39), (7, .int x.1.2)]) (fun x => []) (fun x => x.1.1) ⟨(n, 0), h⟩ (Sub.ofL _ _ (Nat.zero_le _) ⟨rfl, rfl, rfl, rfl, rfl, rfl, rfl, rfl, trivial⟩ rfl rfl) ?_)) ?_
    rotate_left
    · rintro ⟨⟨⟩, h⟩ env st hs
      replace h : g_newelhelp_Same_api_Coord__newelhelp_Plain_api_Coord_1.k20 n = some r := h
      unfold g_newelhelp_Same_api_Coord__newelhelp_Plain_api_Coord_1.k20 at h
      refine WP_sub hs ?_
      try dsimp only
      refine WP_seq ?_
      refine vcc_sound _ _ _ tabOk (by exact rfl) ?_
      repeat (first | refine Ob.mk (by first | rfl | omega | assumption | exact ⟨rfl, rfl, (List.length_map _).symm⟩ | exact ⟨rfl, rfl, by rw [List.length_map]; omega⟩) ?_ | refine Br.t ?_ | refine Br.f ?_)
      refine WP_ret ?_
      obtain rfl := Option.some.inj h
      repeat (first | refine Ob.mk (by first | rfl | omega | assumption | exact ⟨rfl, rfl, (List.length_map _).symm⟩ | exact ⟨rfl, rfl, by rw [List.length_map]; omega⟩) ?_ | refine Br.t ?_ | refine Br.f ?_)
      exact ⟨DLe.refl _, trivial⟩
    rintro ⟨⟨m20, x21⟩, h⟩
    cases m20 with
    | zero => exact nomatch (show (none : Option (Bool)) = some r from h)
    | succ m20 =>
      replace h : g_newelhelp_Same_api_Coord__newelhelp_Plain_api_Coord_1.l20b n a0 a1 (g_newelhelp_Same_api_Coord__newelhelp_Plain_api_Coord_1.l20 n a0 a1 m20) x21 = some r := h
      unfold g_newelhelp_Same_api_Coord__newelhelp_Plain_api_Coord_1.l20b at h
      try dsimp only
      refine WP_seq ?_
      refine WP_seq ?_
      refine vcc_sound _ _ _ tabOk (by exact rfl) ?_
      repeat (first | refine Ob.mk (by first | rfl | omega | assumption | exact ⟨rfl, rfl, (List.length_map _).symm⟩ | exact ⟨rfl, rfl, by rw [List.length_map]; omega⟩) ?_ | refine Br.t ?_ | refine Br.f ?_)
      refine vcc_sound _ _ _ tabOk (by exact rfl) ?_
      repeat (first | refine Ob.mk (by first | rfl | omega | assumption | exact ⟨rfl, rfl, (List.length_map _).symm⟩ | exact ⟨rfl, rfl, by rw [List.length_map]; omega⟩) ?_ | refine Br.t ?_ | refine Br.f ?_)
      refine Br.mk (fun b23 => ?_) (fun b23 => ?_)
      · replace h := bif_t b23 h
        refine WP_skip ?_
        refine WP_seq ?_
        refine WP_block ?_
        refine WP_seq ?_
        refine cdraw1 tabOk (by kernel_rfl) ?_
        obtain ⟨c24, h⟩ := chk_some h
        obtain ⟨c25, h⟩ := chk_some h
        obtain ⟨y26, hy26, h⟩ := bind_some h
        repeat (first | refine Ob.mk (by first | rfl | omega | assumption | exact ⟨rfl, rfl, (List.length_map _).symm⟩ | exact ⟨rfl, rfl, by rw [List.length_map]; omega⟩) ?_ | refine Br.t ?_ | refine Br.f ?_)
        refine CallD.mk _ _ (g_newelhelp_Plain_api_Coord_1.ok n (a0.getD x21.toNat zCoord) (a1.getD x21.toNat zCoord) y26 hy26) (by exact ⟨DLe.refl _, DLe.refl _, trivial⟩) ?_
        repeat (first | refine Ob.mk (by first | rfl | omega | assumption | exact ⟨rfl, rfl, (List.length_map _).symm⟩ | exact ⟨rfl, rfl, by rw [List.length_map]; omega⟩) ?_ | refine Br.t ?_ | refine Br.f ?_)
        refine vcc_sound _ _ _ tabOk (by exact rfl) ?_
        repeat (first | refine Ob.mk (by first | rfl | omega | assumption | exact ⟨rfl, rfl, (List.length_map _).symm⟩ | exact ⟨rfl, rfl, by rw [List.length_map]; omega⟩) ?_ | refine Br.t ?_ | refine Br.f ?_)
        refine Br.mk (fun b27 => ?_) (fun b27 => ?_)
        · replace h := bif_t b27 h
          refine WP_seq ?_
          refine vcc_sound _ _ _ tabOk (by exact rfl) ?_
          repeat (first | refine Ob.mk (by first | rfl | omega | assumption | exact ⟨rfl, rfl, (List.length_map _).symm⟩ | exact ⟨rfl, rfl, by rw [List.length_map]; omega⟩) ?_ | refine Br.t ?_ | refine Br.f ?_)
          refine WP_ret ?_
          obtain rfl := Option.some.inj h
          repeat (first | refine Ob.mk (by first | rfl | omega | assumption | exact ⟨rfl, rfl, (List.length_map _).symm⟩ | exact ⟨rfl, rfl, by rw [List.length_map]; omega⟩) ?_ | refine Br.t ?_ | refine Br.f ?_)
          exact ⟨DLe.refl _, trivial⟩
        · replace h := bif_f b27 h
          refine WP_skip ?_
          refine vcc_sound _ _ _ tabOk (by exact rfl) ?_
          obtain ⟨c28, h⟩ := chk_some h
          repeat (first | refine Ob.mk (by first | rfl | omega | assumption | exact ⟨rfl, rfl, (List.length_map _).symm⟩ | exact ⟨rfl, rfl, by rw [List.length_map]; omega⟩) ?_ | refine Br.t ?_ | refine Br.f ?_)
          repeat (first | refine Ob.mk (by first | rfl | omega | assumption | exact ⟨rfl, rfl, (List.length_map _).symm⟩ | exact ⟨rfl, rfl, by rw [List.length_map]; omega⟩) ?_ | refine Br.t ?_ | refine Br.f ?_)
          exact ⟨⟨(m20, (x21 + 1)), h⟩, Nat.lt_succ_self _, Sub.ofL _ _ (Nat.zero_le _) ⟨rfl, rfl, rfl, rfl, rfl, rfl, rfl, rfl, trivial⟩ rfl rfl⟩
      · replace h := bif_f b23 h
        refine WP_exit ?_
        repeat (first | refine Ob.mk (by first | rfl | omega | assumption | exact ⟨rfl, rfl, (List.length_map _).symm⟩ | exact ⟨rfl, rfl, by rw [List.length_map]; omega⟩) ?_ | refine Br.t ?_ | refine Br.f ?_)
        exact ⟨⟨(), h⟩, Sub.ofL _ _ (Nat.zero_le _) trivial rfl rfl⟩

/-! ### newel/newelhelp.Plain[newel/api.Coord] -/
def g_newelhelp_Plain_api_Coord (n : Nat) (a0 : (List Coord)) (a1 : (List Coord)) : Option (Bool) :=
  (g_newelhelp_Same_api_Coord__newelhelp_Plain_api_Coord_1 n a0 a1).bind fun y1 =>
  some y1
theorem g_newelhelp_Plain_api_Coord.ok (n : Nat) (a0 : (List Coord)) (a1 : (List Coord)) (r : Bool) (h : g_newelhelp_Plain_api_Coord n a0 a1 = some r) : Impl Tryz.prog 22 [.one (.tl Coord 3 encCoord zCoord a0), .one (.tl Coord 3 encCoord zCoord a1)] [.one (dbool r)] := by
  refine impl_wp tabOk Tryz.func22 rfl rfl (by kernel_rfl) ?_
  unfold g_newelhelp_Plain_api_Coord at h
  refine WP_seq ?_
  refine vcc_sound _ _ _ tabOk (by exact rfl) ?_
  repeat (first | refine Ob.mk (by first | rfl | omega | assumption | exact ⟨rfl, rfl, (List.length_map _).symm⟩ | exact ⟨rfl, rfl, by rw [List.length_map]; omega⟩) ?_ | refine Br.t ?_ | refine Br.f ?_)
  refine WP_seq ?_
  refine vcc_sound _ _ _ tabOk (by exact rfl) ?_
  obtain ⟨y1, hy1, h⟩ := bind_some h
  repeat (first | refine Ob.mk (by first | rfl | omega | assumption | exact ⟨rfl, rfl, (List.length_map _).symm⟩ | exact ⟨rfl, rfl, by rw [List.length_map]; omega⟩) ?_ | refine Br.t ?_ | refine Br.f ?_)
  refine CallD.mk _ _ (g_newelhelp_Same_api_Coord__newelhelp_Plain_api_Coord_1.ok n a0 a1 y1 hy1) (by exact ⟨DLe.refl _, DLe.refl _, DLe.refl _, trivial⟩) ?_
  repeat (first | refine Ob.mk (by first | rfl | omega | assumption | exact ⟨rfl, rfl, (List.length_map _).symm⟩ | exact ⟨rfl, rfl, by rw [List.length_map]; omega⟩) ?_ | refine Br.t ?_ | refine Br.f ?_)
  refine WP_ret ?_
  obtain rfl := Option.some.inj h
  repeat (first | refine Ob.mk (by first | rfl | omega | assumption | exact ⟨rfl, rfl, (List.length_map _).symm⟩ | exact ⟨rfl, rfl, by rw [List.length_map]; omega⟩) ?_ | refine Br.t ?_ | refine Br.f ?_)
  exact ⟨DLe.refl _, trivial⟩

end Go.Proofs.Nw.K
end
section
/- SK: slices.SortFunc over a row of one's own of structs of scalars, by any total order that a function of the program tells. -/
set_option linter.unusedVariables false
set_option linter.unusedSimpArgs false
namespace Go.Proofs.Nw.K
open Go Go.Proofs Go.Shelf Go.Lib Go.Sort Go.RowKit

section
variable {α : Type} [Inhabited α] {P : Program} {ρ : Ren}

omit [Inhabited α] in
theorem flatK_len (enc : α → List Value) (n : Nat) (hk : ∀ x, (enc x).length = n) (ys : List α) : (ys.flatMap enc).length = ys.length * n := by
  induction ys with
  | nil => simp
  | cons p r ih => rw [List.flatMap_cons, List.length_append, ih, hk, List.length_cons, Nat.add_mul]; omega

omit [Inhabited α] in
theorem flatK_at (enc : α → List Value) (n : Nat) (hk : ∀ x, (enc x).length = n) : ∀ (l : List α) (i j : Nat) (p : α), l[i]? = some p → j < n → (l.flatMap enc)[i * n + j]? = (enc p)[j]?
  | [], i, j, p, h, _ => by simp at h
  | q :: r, 0, j, p, h, hj => by
    simp at h; subst h
    rw [List.flatMap_cons, Nat.zero_mul, Nat.zero_add, List.getElem?_append_left (by rw [hk]; exact hj)]
  | q :: r, i + 1, j, p, h, hj => by
    have := flatK_at enc n hk r i j p (by simpa using h) hj
    rw [List.flatMap_cons, List.getElem?_append_right (by rw [hk, Nat.add_mul]; omega), ← this, hk, Nat.add_mul]
    congr 1
    omega

theorem flatK_get (enc : α → List Value) (n : Nat) (hn0 : 0 < n) (hk : ∀ x, (enc x).length = n) (ys : List α) (t : Nat) (h : t < ys.length * n) : (ys.flatMap enc)[t]? = some ((flatK enc n ys.toArray)[t]!) := by
  rw [get_flatK _ _ _ _ (by simpa using h)]
  have h2 : t / n < ys.length := Nat.div_lt_of_lt_mul (by rw [Nat.mul_comm]; exact h)
  have h3 : t % n < n := Nat.mod_lt _ hn0
  rw [getElem!_pos _ (t / n) (by simpa using h2)]
  have := flatK_at enc n hk ys (t / n) (t % n) _ (List.getElem?_eq_getElem h2) h3
  have e : t / n * n + t % n = t := by rw [Nat.mul_comm]; exact Nat.div_add_mod t n
  rw [e] at this
  rw [this]
  have h4 : t % n < (enc ys[t / n]).length := by rw [hk]; exact h3
  rw [List.getElem?_eq_getElem h4]
  simp [h4]

theorem sortK_eff (L : SlLaysF0.n6 P ρ) (n : Nat) (hn0 : 0 < n) (aE : ∀ w, (isAgg (ρ.t 24)).run P w = .ok true w) (zE : ∀ w, (Go.sizeOf (ρ.t 24)).run P w = .ok n w) (enc : α → List Value) (hk : ∀ x, (enc x).length = n)
    (hsc : ∀ x, ∀ v ∈ enc x, scal v = true) (h1 : ∀ x, ∀ v ∈ enc x, v.oneCell' = true) (cf : α → α → Int) (hO : SWO (ltOf cf)) (hT : ∀ x y, (ltOf cf) x y = false → (ltOf cf) y x = false → x = y) (g : Nat)
    (hcl : callable P g = true) (hcmp : ∀ x y, Impl P g [.agg ((enc x).map D.sc), .agg ((enc y).map D.sc)] [.one (.sc (.int .i64 (cf x y)))])
    (hnone : ∀ (p : Option Addr) (cap : Nat) (fv : Value) (w : World), Calls P (ρ.f 6) #[.slice p 0 cap, fv] w fun e w' => e = .returned (.tuple #[]) ∧ w' = w)
    {st : List AO} {s k e : Nat} {xs : List α} (hst : st[s]? = some (.row k e n (xs.map fun x => (enc x).map D.sc))) (hn : xs.length ≤ 4194304) :
    Eff P (ρ.f 6) [.h s k 0 xs.length, fnAV g] st [] (st.set s (.row k e n ((xs.mergeSort fun x y => !(ltOf cf) y x).map fun x => (enc x).map D.sc))) := by
  intro w0 σ0 σ gh w vs hb hl hvs
  match vs, hl with
  | [v, fv], _ =>
  have r1 := hvs 0 v _ rfl rfl
  have r2 := RepA_sc (hvs 1 fv _ rfl rfl)
  subst r2
  obtain ⟨gv, hg, hR, A, c, hv⟩ := h_val hb hst r1
  have hlen : (xs.map fun x => (enc x).map D.sc).length = xs.length := by simp
  have hvg : v = gv := by
    obtain ⟨h0, ⟨a1, a2, a3⟩ | ⟨b', m, c2, a1, a2, ⟨a3, a4, _⟩ | a3⟩⟩ := hR
    · exact a3
    · omega
    · obtain ⟨A', c', hgv, hc'⟩ := row_val hb hst hg
      rw [a1] at hgv
      injection hgv with e1 e2 e3
      rw [a3, a1, e2, hlen]; simp
  subst hvg
  obtain ⟨vals, hown, hsz, hval, huns, hone⟩ := hb.obj s _ _ hst hg
  rw [hlen] at hown
  generalize hys : (xs.mergeSort fun x y => !(ltOf cf) y x) = ys
  have hps : ys.length = xs.length := by rw [← hys]; exact sort_perm cf xs
  rcases hown.2 with ⟨e1, e2⟩ | ⟨blk, cap, cur, e1, e2, e3, e4, e5, e6, e7⟩
  · have : xs = [] := List.eq_nil_of_length_eq_zero e2
    subst this
    have : ys = [] := List.eq_nil_of_length_eq_zero hps
    subst this
    rw [e1]
    refine (hnone none 0 _ w).mono fun e w' ⟨h3, h4⟩ => ?_
    subst h4
    refine ⟨_, h3, σ, gh, ?_, [], rfl, by simp [RepVs]⟩
    rw [set_self hst]
    exact .refl hb
  · have hvals : vals = xs.flatMap enc := by
      have hl1 : vals.length = xs.length * n := hown.1
      apply List.ext_getElem?
      intro t
      by_cases ht : t < xs.length * n
      · have h2 : t / n < xs.length := Nat.div_lt_of_lt_mul (by rw [Nat.mul_comm]; exact ht)
        have h3 : t % n < n := Nat.mod_lt _ hn0
        have he : t / n * n + t % n = t := by rw [Nat.mul_comm]; exact Nat.div_add_mod t n
        have h4 : t % n < (enc xs[t / n]).length := by rw [hk]; exact h3
        have hx : (xs.map fun x => (enc x).map D.sc)[t / n]? = some ((enc xs[t / n]).map D.sc) := by simp [h2]
        have hy : ((enc xs[t / n]).map D.sc)[t % n]? = some (.sc (enc xs[t / n])[t % n]) := by simp [h4]
        obtain ⟨u, h5, h6⟩ := hval (t / n) (t % n) _ _ hx hy
        have h6 := RepA_sc (gh := gh) (st := st) (show RepA σ gh st u (.d (.sc ((enc xs[t / n])[t % n]))) from h6)
        rw [he] at h5
        have h7 := flatK_at enc n hk xs (t / n) (t % n) _ (List.getElem?_eq_getElem h2) h3
        rw [he] at h7
        rw [h5, h6, h7, List.getElem?_eq_getElem h4]
      · rw [List.getElem?_eq_none (by omega), List.getElem?_eq_none (by rw [flatK_len enc n hk]; omega)]
    subst hvals
    subst e1
    have hblk : blk < w.heap.size := (Array.getElem?_eq_some_iff.1 e3).1
    have hH : HoldsK enc n w blk 0 xs.toArray := by
      intro j hj
      have hj' : j < xs.length * n := by simpa using hj
      have h3 := hown.cellAt j hj'
      have h4 := hown.frozenAt j
      rw [Nat.zero_add]
      refine ⟨?_, h4⟩
      rw [h3, flatK_get enc n hn0 hk xs j hj']; rfl
    have eg : ∀ args w, (callFunc g args).run P w = .ok (.enter g args) w := fun args w => callFunc_run hcl args w
    have hcl1 : CmpLays P g #[] enc n cf blk 0 xs.toArray.size w := fun m os dk _ x y => by
      have rep : ∀ (σ : Sig) x, RepV σ (.agg (enc x).toArray) (.agg ((enc x).map D.sc)) := fun σ x => ⟨_, rfl, by simp, fun i v d hv hd => by
        simp only [List.getElem?_map, Option.map_eq_some_iff] at hd
        obtain ⟨u, hu, rfl⟩ := hd
        have hv : (enc x)[i]? = some v := hv
        rw [hv] at hu
        cases hu
        exact Rep.sc (hsc x v (List.mem_of_getElem? hv))⟩
      have := impl_calls (vs := [.agg (enc x).toArray, .agg (enc y).toArray]) (hcmp x y) ⟨rfl, fun i v d hv hd => by
        match i, hv, hd with
        | 0, hv, hd => simp at hv hd; subst hv hd; exact rep _ x
        | 1, hv, hd => simp at hv hd; subst hv hd; exact rep _ y
        | i + 2, hv, hd => simp at hv⟩ (sortWorldK enc n w blk 0 m dk os)
      simpa using this
    have hcon := AnyQ.slices_SortFunc_total L n aE zE enc hk h1 cf hO g #[] blk 0 cap xs.toArray w eg hcl1 hH hblk (by simp; omega) hT
    refine hcon.mono fun e' w' ⟨h3, m, os, h4⟩ => ?_
    have hd : (xs.toArray.toList.mergeSort fun x y => !(ltOf cf) y x) = ys := by rw [← hys]
    rw [hd] at h4
    generalize hF : flatK enc n ys.toArray = F at h4
    have hFs : F.size = xs.length * n := by rw [← hF]; simp [hps]
    have hw' : w' = grow (mapBlock (Sort.ahead w m) blk (putCells id 0 F)) os := by rw [h4, ← hF]; rfl
    have hmb : ∀ j, (mapBlock (Sort.ahead w m) blk (putCells id 0 F)).heap[j]? = if blk = j then (w.heap[j]?).map (onCells (putCells id 0 F)) else w.heap[j]? := fun j => by
      simp only [mapBlock, Sort.ahead, Array.getElem?_modify]
    have hms : (mapBlock (Sort.ahead w m) blk (putCells id 0 F)).heap.size = w.heap.size := by simp [mapBlock, Sort.ahead]
    have hgrown : w.grownBy w' (some blk) := by
      rw [hw']
      refine ⟨rfl, rfl, rfl, ?_, fun j hj hne => ?_⟩
      · rw [size_grow, hms]; omega
      · rw [heap_grow_old _ _ (by rw [hms]; exact hj), hmb, if_neg (fun h => hne (by rw [h]))]
    have hdr : w.drawn ≤ w'.drawn := by
      rw [hw']
      show w.drawn ≤ w.drawn + m
      omega
    have hcell : w'.heap[blk]? = some (.cells (putCells id 0 F cur) e (0, 0)) := by
      rw [hw', heap_grow_old _ _ (by rw [hms]; exact hblk), hmb, if_pos rfl, e3]; rfl
    have hpc : (putCells id 0 F cur).size = cur.size := by simp [putCells]
    have hFl : (putCells id 0 F cur).toList.take (xs.length * n) = ys.flatMap enc := by
      have h5 : xs.length * n ≤ cur.size := by rw [e6]; exact Nat.mul_le_mul_right _ e4
      apply List.ext_getElem?
      intro t
      by_cases ht : t < xs.length * n
      · rw [List.getElem?_take_of_lt ht, flatK_get enc n hn0 hk ys t (by rw [hps]; exact ht), hF]
        have h7 : t < cur.size := by omega
        simp only [putCells, Array.getElem?_toList, Array.getElem?_mapIdx, Array.getElem?_eq_getElem h7, Option.map_some]
        rw [if_pos ⟨by omega, by omega⟩]; rfl
      · rw [List.getElem?_eq_none (by simp; omega), List.getElem?_eq_none (by rw [flatK_len enc n hk, hps]; omega)]
    have keep : ∀ v a, RepA σ gh st v a → RepA σ gh (st.set s (.row k e n (ys.map fun x => (enc x).map D.sc))) v a := fun v a h' => h'.set hst _ (fun k' e' sz' xs' heq => by cases heq; exact ⟨e, xs.map fun x => (enc x).map D.sc, rfl, by simp [hps]⟩)
    have := hb.turn (w' := w') hst hg (by simp) (by simpa [blkOf] using hgrown) (.slice (some ⟨blk, 0, none⟩) xs.length cap) (.row k e n (ys.map fun x => (enc x).map D.sc)) (fun b hb' => .inl hb')
      ⟨ys.flatMap enc, ⟨by rw [flatK_len enc n hk]; simp, .inr ⟨blk, cap, _, by simp [hps], e2, hcell, by simpa [hps] using e4, e5, by rw [hpc]; exact e6, by rw [List.length_map, hps]; exact hFl⟩⟩,
        fun i x hx => by
          simp only [List.getElem?_map, Option.map_eq_some_iff] at hx
          obtain ⟨p, _, rfl⟩ := hx
          rw [List.length_map, hk],
        fun i j x d hx hd => by
          simp only [List.getElem?_map, Option.map_eq_some_iff] at hx
          obtain ⟨p, hp, rfl⟩ := hx
          simp only [List.getElem?_map, Option.map_eq_some_iff] at hd
          obtain ⟨u, hu, rfl⟩ := hd
          have hj : j < n := by have := (List.getElem?_eq_some_iff.1 hu).1; rwa [hk] at this
          exact ⟨u, by rw [flatK_at enc n hk ys i j p hp hj]; exact hu, Rep.sc (hsc p u (List.mem_of_getElem? hu))⟩,
        huns, fun v hv => by
          obtain ⟨p, _, hp⟩ := List.mem_flatMap.1 hv
          exact h1 p v hp⟩
      (by rw [set_self hg]; exact keep) hdr
    rw [set_self hg] at this
    exact ⟨_, h3, σ, gh, this, [], rfl, by simp [RepVs]⟩
end
end Go.Proofs.Nw.K
end
section
/- QI0: coords in their order. -/
open Go Go.RowKit Go.Proofs Go.Shelf Go.Lib Go.Sort
set_option linter.unusedVariables false
set_option linter.unusedSimpArgs false
namespace Go.Proofs.Nw.K

def coordC (a b : Coord) : Int := if strCmp a.group b.group ≠ 0 then strCmp a.group b.group else if strCmp a.name b.name ≠ 0 then strCmp a.name b.name else wholeC a.version b.version
theorem totCo : TotPre coordC := (totS.pull Coord.group).lex ((totS.pull Coord.name).lex (totC.pull Coord.version))
theorem coordC_zero {a b : Coord} (h : coordC a b = 0) : a = b := by
  unfold coordC at h
  split at h
  · contradiction
  · rename_i h1
    split at h
    · contradiction
    · rename_i h2
      have e1 := strCmp_zero (Decidable.not_not.1 h1)
      have e2 := strCmp_zero (Decidable.not_not.1 h2)
      have e3 := wholeC_zero h
      cases a; cases b
      simp only at e1 e2 e3
      subst e1 e2 e3
      rfl
theorem g_Or4_eq (n : Nat) (x y z u : Int) : g_cmp_Or_int (n + 5) [x, y, z, u] = some (if x ≠ 0 then x else if y ≠ 0 then y else if z ≠ 0 then z else u) := by
  have e : ∀ z : Int, z ≠ 0 → (z != 0) = true := fun z h => by simpa using h
  by_cases h1 : x = 0
  · by_cases h2 : y = 0
    · by_cases h3 : z = 0
      · by_cases h4 : u = 0
        · subst h1 h2 h3 h4; simp [g_cmp_Or_int, g_cmp_Or_int.l14, g_cmp_Or_int.l14b, g_cmp_Or_int.k14, chk, in64]
        · subst h1 h2 h3; simp [g_cmp_Or_int, g_cmp_Or_int.l14, g_cmp_Or_int.l14b, g_cmp_Or_int.k14, chk, in64, e u h4]
      · subst h1 h2; simp [g_cmp_Or_int, g_cmp_Or_int.l14, g_cmp_Or_int.l14b, g_cmp_Or_int.k14, chk, in64, h3, e z h3]
    · subst h1; simp [g_cmp_Or_int, g_cmp_Or_int.l14, g_cmp_Or_int.l14b, g_cmp_Or_int.k14, chk, in64, h2, e y h2]
  · simp [g_cmp_Or_int, g_cmp_Or_int.l14, g_cmp_Or_int.l14b, g_cmp_Or_int.k14, chk, in64, h1, e x h1]
theorem g_coord_Compare_eq (n : Nat) (a b : Coord) (ha : a.version.size ≤ 4194303) (hb : b.version.size ≤ 4194303) : g_coord_Compare (n + 5) a b = some (coordC a b) := by
  unfold g_coord_Compare
  rw [g_cmpS_eq, g_cmpS_eq, g_cmpS_eq, g_order_Compare_eq _ _ _ ha hb]
  simp only [Option.bind_some]
  rw [g_Or4_eq]
  rfl

abbrev SmC : Type := {c : Coord // c.version.size ≤ 4194303}
def coordS (x y : SmC) : Int := coordC x.1 y.1
theorem totCoS : TotPre coordS := totCo.pull Subtype.val
instance : Inhabited SmC := ⟨⟨zCoord, Nat.zero_le _⟩⟩
theorem attach_coord : ∀ (xs : List Coord) (h : ∀ x ∈ xs, x.version.size ≤ 4194303), ∃ ys : List SmC, ys.map Subtype.val = xs
  | [], _ => ⟨[], rfl⟩
  | x :: r, h => by
    obtain ⟨ys, hy⟩ := attach_coord r (fun x hx => h x (by simp [hx]))
    exact ⟨⟨x, h x (by simp)⟩ :: ys, by simp [hy]⟩
def sortCo (xs : List Coord) : List Coord := xs.mergeSort fun x y => !(ltOf coordC) y x
theorem sortCo_length (xs : List Coord) : (sortCo xs).length = xs.length := by simp [sortCo]
def encCV (c : Coord) : List Value := [.string c.group, .string c.name, .string c.version]

theorem sortCoord_eff (xs : List Coord) (c1 : xs.length ≤ 4194304) (c2 : ∀ x ∈ xs, x.version.size ≤ 4194303) {st : List AO} {s k e : Nat} (hst : st[s]? = some (.row k e 3 (xs.map encCoord))) :
    Eff Tryz.prog 27 [.h s k 0 xs.length, fnAV 28] st [] (st.set s (.row k e 3 ((sortCo xs).map encCoord))) := by
  obtain ⟨ys, rfl⟩ := attach_coord xs c2
  have L := Tryz.sortCoord
  have := sortK_eff (P := Tryz.prog) (α := SmC) L 3 (by decide) Tryz.isAgg29 Tryz.sizeOf29 (fun x => encCV x.1) (fun x => rfl) (fun x v hv => by simp [encCV] at hv; rcases hv with rfl | rfl | rfl <;> rfl) (fun x v hv => by simp [encCV] at hv; rcases hv with rfl | rfl | rfl <;> rfl) coordS totCoS.swo
    (fun x y h1 h2 => by
      simp only [ltOf, decide_eq_false_iff_not] at h1 h2
      have a1 := totCoS.anti x y
      exact Subtype.ext (coordC_zero (a := x.1) (b := y.1) (by show coordS x y = 0; omega)))
    28 (by kernel_rfl) (fun x y => g_coord_Compare.ok 5 x.1 y.1 _ (g_coord_Compare_eq 0 x.1 y.1 x.2 y.2))
    (fun p cap fv w => AnyF.slices_SortFunc_none { L with } p cap fv w) (st := st) (s := s) (k := k) (e := e) (xs := ys) (by rw [hst]; simp [encCoord, encCV]) (by simpa using c1)
  have e1 : sortCo (ys.map Subtype.val) = (ys.mergeSort fun x y => !(ltOf coordS) y x).map Subtype.val := by
    unfold sortCo
    rw [List.map_mergeSort]
    intro a ha b hb
    rfl
  rw [e1]
  simp only [List.length_map, List.map_map] at this ⊢
  exact this
end Go.Proofs.Nw.K
end
