/- Bundle 11: NwSF, NwQSort1, NwQM2, NwQP3. -/
import Derived.Test.YtblenipidihemaaDoorNwA10
import Derived.Shelf.SlSortCmp.WholeK
import Derived.Shelf.SlSortCmp.NoneTotal
import Derived.Shelf.SlSortCmp.Whole1
import Derived.Sort.Walk0
import Derived.Sort.Grow
import Derived.Shelf.SlLaysF
import Derived.Shelf.SlLaysF0
import Derived.Shelf.SlGeneric
import Derived.Ground.SlsfProg
import Derived.Test.YtblenipidihemaaDoorProg
section
/- SF: slices.SortFunc over a row of one's own, by any total order that a function of the program tells. -/
set_option linter.unusedVariables false
set_option linter.unusedSimpArgs false
namespace Go.Proofs.Nw.K
open Go Go.Proofs Go.Shelf Go.Lib Go.Sort Go.RowKit

theorem grow_of_below {w w' : World} (h : BelowD w.heap.size w w') : ∃ q os', w' = grow (w.drewN q) os' := by
  refine ⟨w'.drawn - w.drawn, w'.heap.extract w.heap.size w'.heap.size, ?_⟩
  have h1 := h.os
  have h2 := h.tape
  have h3 := h.output
  have h4 := h.dr
  have h5 : w'.heap = w.heap ++ w'.heap.extract w.heap.size w'.heap.size := by
    apply Array.ext_getElem?
    intro i
    rw [Array.getElem?_append]
    split
    · rename_i hi; exact h.block i hi
    · rename_i hi
      rw [Array.getElem?_extract]
      have hs := h.size
      split
      · rename_i h6; congr 1; omega
      · rename_i h6
        exact Array.getElem?_eq_none (by omega)
  cases w'
  cases w
  simp only [World.drewN, grow] at *
  subst h1 h2 h3
  simp only [World.mk.injEq, true_and]
  exact ⟨h5, by omega, trivial⟩

def sig0 : Sig := ⟨fun _ _ => none, fun _ => none⟩
theorem sealed0 (w : World) : Sealed sig0 w where
  cell := fun b o v h => by cases h
  obj := fun r o h => by cases h

/-- a function of scalars and structs of scalars, called in any world -/
theorem impl_calls {P : Program} {f : FuncId} {ds : List DV} {vs : List Value} {r : Value} (h : Impl P f ds [.one (.sc r)]) (hv : RepVs sig0 vs ds) (W : World) :
    Calls P f vs.toArray W fun e w' => e = .returned r ∧ ∃ q os', w' = grow (W.drewN q) os' := by
  refine (h W sig0 vs (sealed0 W) hv).mono fun e w' ⟨u, σ', h1, h2, h3, h4, h5⟩ => ?_
  have h5 : Rep σ' u (.sc r) := h5
  cases h5
  exact ⟨h1, grow_of_below h2⟩

section
variable {α : Type} [Inhabited α] {P : Program} {ρ : Ren}

omit [Inhabited α] in
theorem sort_perm (cf : α → α → Int) (xs : List α) : (xs.mergeSort fun x y => !(ltOf cf) y x).length = xs.length := by simp

theorem sort1_eff (L : SlLaysF.n6 P ρ) (ev : α → Value) (hsc : ∀ x, scal (ev x) = true) (h1 : OneCell ev) (h1' : ∀ x, (ev x).oneCell' = true) (cf : α → α → Int) (hO : SWO (ltOf cf)) (hT : ∀ x y, (ltOf cf) x y = false → (ltOf cf) y x = false → x = y) (g : Nat)
    (hcl : callable P g = true) (hcmp : ∀ x y, Impl P g [.one (.sc (ev x)), .one (.sc (ev y))] [.one (.sc (.int .i64 (cf x y)))])
    (hnone : ∀ (p : Option Addr) (cap : Nat) (fv : Value) (w : World), Calls P (ρ.f 6) #[.slice p 0 cap, fv] w fun e w' => e = .returned (.tuple #[]) ∧ w' = w)
    {st : List AO} {s k e : Nat} {xs : List α} (hst : st[s]? = some (.row k e 1 (xs.map fun x => [.sc (ev x)]))) (hn : xs.length ≤ 4194304) :
    Eff P (ρ.f 6) [.h s k 0 xs.length, fnAV g] st [] (st.set s (.row k e 1 ((xs.mergeSort fun x y => !(ltOf cf) y x).map fun x => [.sc (ev x)]))) := by
  intro w0 σ0 σ gh w vs hb hl hvs
  match vs, hl with
  | [v, fv], _ =>
  have r1 := hvs 0 v _ rfl rfl
  have r2 := RepA_sc (hvs 1 fv _ rfl rfl)
  subst r2
  obtain ⟨gv, hg, hR, A, c, hv⟩ := h_val hb hst r1
  have hlen : (xs.map fun x => [D.sc (ev x)]).length = xs.length := by simp
  have hvg : v = gv := by
    obtain ⟨h0, ⟨a1, a2, a3⟩ | ⟨b', m, c2, a1, a2, ⟨a3, a4, _⟩ | a3⟩⟩ := hR
    · exact a3
    · omega
    · obtain ⟨A', c', hgv, hc'⟩ := row_val hb hst hg
      rw [a1] at hgv
      injection hgv with e1 e2 e3
      rw [a3, a1, e2, hlen]; simp
  subst hvg
  obtain ⟨vals, hown, hsz, hval, huns, hone⟩ := hb.obj s _ _ hst hg
  rw [hlen] at hown
  generalize hys : (xs.mergeSort fun x y => !(ltOf cf) y x) = ys
  have hps : ys.length = xs.length := by rw [← hys]; exact sort_perm cf xs
  rcases hown.2 with ⟨e1, e2⟩ | ⟨blk, cap, cur, e1, e2, e3, e4, e5, e6, e7⟩
  · have : xs = [] := List.eq_nil_of_length_eq_zero e2
    subst this
    have : ys = [] := List.eq_nil_of_length_eq_zero hps
    subst this
    rw [e1]
    refine (hnone none 0 _ w).mono fun e w' ⟨h3, h4⟩ => ?_
    subst h4
    refine ⟨_, h3, σ, gh, ?_, [], rfl, by simp [RepVs]⟩
    rw [set_self hst]
    exact .refl hb
  · have hvals : vals = xs.map ev := by
      have hl1 : vals.length = xs.length * 1 := hown.1
      apply List.ext_getElem?
      intro t
      by_cases ht : t < xs.length
      · have hx : (xs.map fun x => [D.sc (ev x)])[t]? = some [D.sc (ev xs[t])] := by simp [ht]
        obtain ⟨u, h3, h4⟩ := hval t 0 _ _ hx rfl
        have h4 := RepA_sc (gh := gh) (st := st) (show RepA σ gh st u (.d (.sc (ev xs[t]))) from h4)
        rw [show t * 1 + 0 = t by omega] at h3
        rw [h3, h4]; simp [ht]
      · rw [List.getElem?_eq_none (by omega), List.getElem?_eq_none (by simp; omega)]
    subst hvals
    subst e1
    have hblk : blk < w.heap.size := (Array.getElem?_eq_some_iff.1 e3).1
    have hH : Holds ev w blk 0 xs.toArray := by
      intro j hj
      have hj' : j < xs.length := by simpa using hj
      have h3 := hown.cellAt j (by omega)
      have h4 := hown.frozenAt j
      rw [Nat.zero_add]
      refine ⟨?_, h4⟩
      rw [h3]
      simp [hj', getElem!_pos]
    have eg : ∀ args w, (callFunc g args).run P w = .ok (.enter g args) w := fun args w => callFunc_run hcl args w
    have hcl1 : CmpLays1 P g #[] ev cf blk 0 xs.toArray.size w := fun m os dk _ x y => by
      have := impl_calls (vs := [ev x, ev y]) (hcmp x y) ⟨rfl, fun i v d hv hd => by
        match i, hv, hd with
        | 0, hv, hd => simp at hv hd; subst hv hd; exact Rep.sc (hsc x)
        | 1, hv, hd => simp at hv hd; subst hv hd; exact Rep.sc (hsc y)
        | i + 2, hv, hd => simp at hv⟩ (sortWorld ev w blk 0 m dk os)
      simpa using this
    have hcon := Any.slices_SortFunc_total L ev h1 cf hO g #[] blk 0 cap xs.toArray w eg hcl1 hH hblk (by simp; omega) hT
    refine hcon.mono fun e' w' ⟨h3, m, os, h4⟩ => ?_
    have hd : (xs.toArray.toList.mergeSort fun x y => !(ltOf cf) y x) = ys := by rw [← hys]
    rw [hd] at h4
    generalize hF : ys.toArray = F at h4
    have hFs : F.size = xs.length := by rw [← hF]; simp [hps]
    have hw' : w' = grow (mapBlock (Sort.ahead w m) blk (putCells ev 0 F)) os := h4
    have hmb : ∀ j, (mapBlock (Sort.ahead w m) blk (putCells ev 0 F)).heap[j]? = if blk = j then (w.heap[j]?).map (onCells (putCells ev 0 F)) else w.heap[j]? := fun j => by
      simp only [mapBlock, Sort.ahead, Array.getElem?_modify]
    have hms : (mapBlock (Sort.ahead w m) blk (putCells ev 0 F)).heap.size = w.heap.size := by simp [mapBlock, Sort.ahead]
    have hgrown : w.grownBy w' (some blk) := by
      rw [hw']
      refine ⟨rfl, rfl, rfl, ?_, fun j hj hne => ?_⟩
      · rw [size_grow, hms]; omega
      · rw [heap_grow_old _ _ (by rw [hms]; exact hj), hmb, if_neg (fun h => hne (by rw [h]))]
    have hdr : w.drawn ≤ w'.drawn := by
      rw [hw']
      show w.drawn ≤ w.drawn + m
      omega
    have hcell : w'.heap[blk]? = some (.cells (putCells ev 0 F cur) e (0, 0)) := by
      rw [hw', heap_grow_old _ _ (by rw [hms]; exact hblk), hmb, if_pos rfl, e3]; rfl
    have hpc : (putCells ev 0 F cur).size = cur.size := by simp [putCells]
    have hFl : (putCells ev 0 F cur).toList.take (xs.length * 1) = ys.map ev := by
      have h5 : xs.length * 1 ≤ cur.size := by rw [e6]; omega
      apply List.ext_getElem?
      intro t
      by_cases ht : t < xs.length
      · rw [List.getElem?_take_of_lt (by omega)]
        have h7 : t < cur.size := by omega
        simp only [putCells, Array.getElem?_toList, Array.getElem?_mapIdx, Array.getElem?_eq_getElem h7, Option.map_some]
        rw [if_pos ⟨by omega, by omega⟩]
        have h8 : t < ys.length := by omega
        rw [← hF]
        simp [h8, getElem!_pos]
      · rw [List.getElem?_eq_none (by simp; omega), List.getElem?_eq_none (by simp; omega)]
    have keep : ∀ v a, RepA σ gh st v a → RepA σ gh (st.set s (.row k e 1 (ys.map fun x => [D.sc (ev x)]))) v a := fun v a h' => h'.set hst _ (fun k' e' sz' xs' heq => by cases heq; exact ⟨e, xs.map fun x => [D.sc (ev x)], rfl, by simp [hps]⟩)
    have := hb.turn (w' := w') hst hg (by simp) (by simpa [blkOf] using hgrown) (.slice (some ⟨blk, 0, none⟩) xs.length cap) (.row k e 1 (ys.map fun x => [D.sc (ev x)])) (fun b hb' => .inl hb')
      ⟨ys.map ev, ⟨by simp, .inr ⟨blk, cap, _, by simp [hps], e2, hcell, by simpa [hps] using e4, e5, by rw [hpc]; exact e6, by rw [List.length_map, hps]; exact hFl⟩⟩,
        fun i x hx => by
          simp only [List.getElem?_map, Option.map_eq_some_iff] at hx
          obtain ⟨p, _, rfl⟩ := hx
          rfl,
        fun i j x d hx hd => by
          simp only [List.getElem?_map, Option.map_eq_some_iff] at hx
          obtain ⟨p, hp, rfl⟩ := hx
          have hj : j = 0 := by
            have := (List.getElem?_eq_some_iff.1 hd).1
            simp at this; omega
          subst hj
          simp at hd
          subst hd
          exact ⟨ev p, by rw [show i * 1 + 0 = i by omega, List.getElem?_map, hp]; rfl, Rep.sc (hsc p)⟩,
        huns, fun v hv => by
          obtain ⟨p, _, rfl⟩ := List.mem_map.1 hv
          exact h1' p⟩
      (by rw [set_self hg]; exact keep) hdr
    rw [set_self hg] at this
    exact ⟨_, h3, σ, gh, this, [], rfl, by simp [RepVs]⟩
end
end Go.Proofs.Nw.K
end
section
/-
  DERIVED: THE SHELF's CONTRACTS AT THIS DUMP, IN PLAIN WORDS (tools/lay-plain.mjs out of 'NwQSort0.lean', which tools/lay-shelf.mjs wrote): THE SAME DECLARATIONS UNDER THE SAME NAMES: 'import', 'namespace', 'open', 'def', 'theorem' AND NOTHING ELSE: no command of the shelf's: FOR A HAND-IN. Each laying: the table of numbers ('.._ren') and one theorem, a field a fact of the dump's own or the kernel's comparison; each contract: ONE APPLICATION.
-/
namespace Go.Proofs
open Go.Shelf
def Tryd.sortStr_ren : Go.Shelf.Ren := ⟨fun | 6 => 46 | 15 => 66 | 14 => 65 | 28 => 86 | 29 => 87 | 20 => 78 | 21 => 79 | 22 => 80 | 23 => 81 | 24 => 82 | 25 => 83 | 26 => 84 | 27 => 85 | 46 => 105 | 47 => 106 | 48 => 107 | 49 => 108 | 50 => 109 | 57 => 119 | n => n, fun | 22 => 23 | 24 => 9 | 25 => 25 | 3 => 3 | 39 => 29 | 0 => 0 | 53 => 117 | 55 => 119 | 4 => 4 | 46 => 110 | 45 => 109 | 50 => 114 | 5 => 5 | 9 => 9 | 66 => 134 | 70 => 138 | 76 => 146 | 77 => 147 | n => n, fun | n => n⟩
theorem Tryd.sortStr : Go.Proofs.SlLaysF.n6 Tryd.prog Tryd.sortStr_ren := {
  mixed := by kernel_rfl
  f6 := ⟨Tryd.f46.name, by decide, Tryd.func46.trans (congrArg some (by kernel_rfl))⟩
  f14 := ⟨Tryd.f65.name, by decide, Tryd.func65.trans (congrArg some (by kernel_rfl))⟩
  f15 := Tryd.func66.trans (congrArg some (by kernel_rfl))
  f20 := ⟨Tryd.f78.name, by decide, Tryd.func78.trans (congrArg some (by kernel_rfl))⟩
  f21 := ⟨Tryd.f79.name, by decide, Tryd.func79.trans (congrArg some (by kernel_rfl))⟩
  f22 := ⟨Tryd.f80.name, by decide, Tryd.func80.trans (congrArg some (by kernel_rfl))⟩
  f23 := ⟨Tryd.f81.name, by decide, Tryd.func81.trans (congrArg some (by kernel_rfl))⟩
  f24 := ⟨Tryd.f82.name, by decide, Tryd.func82.trans (congrArg some (by kernel_rfl))⟩
  f25 := ⟨Tryd.f83.name, by decide, Tryd.func83.trans (congrArg some (by kernel_rfl))⟩
  f26 := ⟨Tryd.f84.name, by decide, Tryd.func84.trans (congrArg some (by kernel_rfl))⟩
  f27 := ⟨Tryd.f85.name, by decide, Tryd.func85.trans (congrArg some (by kernel_rfl))⟩
  f28 := Tryd.func86.trans (congrArg some (by kernel_rfl))
  f29 := Tryd.func87.trans (congrArg some (by kernel_rfl))
  f46 := ⟨Tryd.f105.name, by decide, Tryd.func105.trans (congrArg some (by kernel_rfl))⟩
  f47 := Tryd.func106.trans (congrArg some (by kernel_rfl))
  f48 := Tryd.func107.trans (congrArg some (by kernel_rfl))
  f49 := ⟨Tryd.f108.name, by decide, Tryd.func108.trans (congrArg some (by kernel_rfl))⟩
  f50 := ⟨Tryd.f109.name, by decide, Tryd.func109.trans (congrArg some (by kernel_rfl))⟩
  f57 := ⟨Tryd.f119.name, by decide, Tryd.func119.trans (congrArg some (by kernel_rfl))⟩
  t0 := Tryd.underlying0
  a0 := Tryd.isAgg0
  z0 := Tryd.sizeOf0
  v0 := Tryd.zeroValue0
  t3 := Tryd.underlying3
  a3 := Tryd.isAgg3
  z3 := Tryd.sizeOf3
  v3 := Tryd.zeroValue3
  t4 := Tryd.underlying4
  a4 := Tryd.isAgg4
  z4 := Tryd.sizeOf4
  v4 := Tryd.zeroValue4
  t5 := Tryd.underlying5
  a5 := Tryd.isAgg5
  z5 := Tryd.sizeOf5
  v5 := Tryd.zeroValue5
  t9 := Tryd.underlying9
  a9 := Tryd.isAgg9
  z9 := Tryd.sizeOf9
  v9 := Tryd.zeroValue9
  t22 := Tryd.underlying23
  a22 := Tryd.isAgg23
  z22 := Tryd.sizeOf23
  v22 := Tryd.zeroValue23
  a24 := Tryd.isAgg9
  z24 := Tryd.sizeOf9
  t25 := Tryd.underlying25
  a25 := Tryd.isAgg25
  z25 := Tryd.sizeOf25
  v25 := Tryd.zeroValue25
  t39 := Tryd.underlying29
  a39 := Tryd.isAgg29
  z39 := Tryd.sizeOf29
  v39 := Tryd.zeroValue29
  t45 := Tryd.underlying109
  a45 := Tryd.isAgg109
  z45 := Tryd.sizeOf109
  v45 := Tryd.zeroValue109
  t46 := Tryd.underlying110
  a46 := Tryd.isAgg110
  z46 := Tryd.sizeOf110
  v46 := Tryd.zeroValue110
  t50 := Tryd.underlying114
  a50 := Tryd.isAgg114
  z50 := Tryd.sizeOf114
  v50 := Tryd.zeroValue114
  t53 := Tryd.underlying117
  a53 := Tryd.isAgg117
  z53 := Tryd.sizeOf117
  v53 := Tryd.zeroValue117
  t55 := Tryd.underlying119
  a55 := Tryd.isAgg119
  z55 := Tryd.sizeOf119
  v55 := Tryd.zeroValue119
  t66 := Tryd.underlying134
  a66 := Tryd.isAgg134
  z66 := Tryd.sizeOf134
  v66 := Tryd.zeroValue134
  t70 := Tryd.underlying138
  a70 := Tryd.isAgg138
  z70 := Tryd.sizeOf138
  v70 := Tryd.zeroValue138
  t76 := Tryd.underlying146
  a76 := Tryd.isAgg146
  z76 := Tryd.sizeOf146
  v76 := Tryd.zeroValue146
  t77 := Tryd.underlying147
  a77 := Tryd.isAgg147
  z77 := Tryd.sizeOf147
  v77 := Tryd.zeroValue147 }
def Tryd.sortCoord_ren : Go.Shelf.Ren := ⟨fun | 6 => 48 | 15 => 66 | 14 => 67 | 28 => 86 | 29 => 87 | 20 => 88 | 21 => 89 | 22 => 90 | 23 => 91 | 24 => 92 | 25 => 93 | 26 => 94 | 27 => 95 | 46 => 110 | 47 => 106 | 48 => 107 | 49 => 111 | 50 => 112 | 57 => 120 | n => n, fun | 22 => 58 | 24 => 47 | 25 => 78 | 3 => 3 | 39 => 29 | 0 => 0 | 53 => 117 | 55 => 119 | 4 => 4 | 46 => 110 | 45 => 109 | 50 => 114 | 5 => 5 | 9 => 9 | 66 => 134 | 70 => 138 | 76 => 146 | 77 => 147 | n => n, fun | n => n⟩
theorem Tryd.sortCoord : Go.Proofs.SlLaysF0.n6 Tryd.prog Tryd.sortCoord_ren := {
  mixed := by kernel_rfl
  f6 := ⟨Tryd.f48.name, by decide, Tryd.func48.trans (congrArg some (by kernel_rfl))⟩
  f14 := ⟨Tryd.f67.name, by decide, Tryd.func67.trans (congrArg some (by kernel_rfl))⟩
  f15 := Tryd.func66.trans (congrArg some (by kernel_rfl))
  f20 := ⟨Tryd.f88.name, by decide, Tryd.func88.trans (congrArg some (by kernel_rfl))⟩
  f21 := ⟨Tryd.f89.name, by decide, Tryd.func89.trans (congrArg some (by kernel_rfl))⟩
  f22 := ⟨Tryd.f90.name, by decide, Tryd.func90.trans (congrArg some (by kernel_rfl))⟩
  f23 := ⟨Tryd.f91.name, by decide, Tryd.func91.trans (congrArg some (by kernel_rfl))⟩
  f24 := ⟨Tryd.f92.name, by decide, Tryd.func92.trans (congrArg some (by kernel_rfl))⟩
  f25 := ⟨Tryd.f93.name, by decide, Tryd.func93.trans (congrArg some (by kernel_rfl))⟩
  f26 := ⟨Tryd.f94.name, by decide, Tryd.func94.trans (congrArg some (by kernel_rfl))⟩
  f27 := ⟨Tryd.f95.name, by decide, Tryd.func95.trans (congrArg some (by kernel_rfl))⟩
  f28 := Tryd.func86.trans (congrArg some (by kernel_rfl))
  f29 := Tryd.func87.trans (congrArg some (by kernel_rfl))
  f46 := ⟨Tryd.f110.name, by decide, Tryd.func110.trans (congrArg some (by kernel_rfl))⟩
  f47 := Tryd.func106.trans (congrArg some (by kernel_rfl))
  f48 := Tryd.func107.trans (congrArg some (by kernel_rfl))
  f49 := ⟨Tryd.f111.name, by decide, Tryd.func111.trans (congrArg some (by kernel_rfl))⟩
  f50 := ⟨Tryd.f112.name, by decide, Tryd.func112.trans (congrArg some (by kernel_rfl))⟩
  f57 := ⟨Tryd.f120.name, by decide, Tryd.func120.trans (congrArg some (by kernel_rfl))⟩
  t0 := Tryd.underlying0
  a0 := Tryd.isAgg0
  z0 := Tryd.sizeOf0
  v0 := Tryd.zeroValue0
  t3 := Tryd.underlying3
  a3 := Tryd.isAgg3
  z3 := Tryd.sizeOf3
  v3 := Tryd.zeroValue3
  t4 := Tryd.underlying4
  a4 := Tryd.isAgg4
  z4 := Tryd.sizeOf4
  v4 := Tryd.zeroValue4
  t5 := Tryd.underlying5
  a5 := Tryd.isAgg5
  z5 := Tryd.sizeOf5
  v5 := Tryd.zeroValue5
  t9 := Tryd.underlying9
  a9 := Tryd.isAgg9
  z9 := Tryd.sizeOf9
  v9 := Tryd.zeroValue9
  t22 := Tryd.underlying58
  a22 := Tryd.isAgg58
  z22 := Tryd.sizeOf58
  v22 := Tryd.zeroValue58
  t25 := Tryd.underlying78
  a25 := Tryd.isAgg78
  z25 := Tryd.sizeOf78
  v25 := Tryd.zeroValue78
  t39 := Tryd.underlying29
  a39 := Tryd.isAgg29
  z39 := Tryd.sizeOf29
  v39 := Tryd.zeroValue29
  t45 := Tryd.underlying109
  a45 := Tryd.isAgg109
  z45 := Tryd.sizeOf109
  v45 := Tryd.zeroValue109
  t46 := Tryd.underlying110
  a46 := Tryd.isAgg110
  z46 := Tryd.sizeOf110
  v46 := Tryd.zeroValue110
  t50 := Tryd.underlying114
  a50 := Tryd.isAgg114
  z50 := Tryd.sizeOf114
  v50 := Tryd.zeroValue114
  t53 := Tryd.underlying117
  a53 := Tryd.isAgg117
  z53 := Tryd.sizeOf117
  v53 := Tryd.zeroValue117
  t55 := Tryd.underlying119
  a55 := Tryd.isAgg119
  z55 := Tryd.sizeOf119
  v55 := Tryd.zeroValue119
  t66 := Tryd.underlying134
  a66 := Tryd.isAgg134
  z66 := Tryd.sizeOf134
  v66 := Tryd.zeroValue134
  t70 := Tryd.underlying138
  a70 := Tryd.isAgg138
  z70 := Tryd.sizeOf138
  v70 := Tryd.zeroValue138
  t76 := Tryd.underlying146
  a76 := Tryd.isAgg146
  z76 := Tryd.sizeOf146
  v76 := Tryd.zeroValue146
  t77 := Tryd.underlying147
  a77 := Tryd.isAgg147
  z77 := Tryd.sizeOf147
  v77 := Tryd.zeroValue147 }
end Go.Proofs
end
section
/- QM2: the order of versions: what it is; the library's sort by it. -/
open Go Go.RowKit Go.Proofs Go.Sort Go.Shelf
set_option linter.unusedVariables false
set_option linter.unusedSimpArgs false
namespace Go.Proofs.Nw.K

def cmpV (a b : Str) : Int := wordsCmp (splitOf a) (splitOf b)
def wholeC (a b : Str) : Int := if cmpV a b ≠ 0 then cmpV a b else strCmp a b
theorem totV : TotPre cmpV := totWs.pull splitOf
theorem totC : TotPre wholeC := totV.lex totS
theorem wholeC_zero {a b : Str} (h : wholeC a b = 0) : a = b := by
  unfold wholeC at h
  split at h
  · omega
  · exact strCmp_zero h

theorem drop_size (s : Str) (n : Nat) : (⟨(s.data.toList.drop n).toArray⟩ : Str).size ≤ s.size := by
  rw [str_size, str_size]
  simp
theorem lettersOf_text (p : Pt) : (lettersOf p).text.size ≤ p.text.size := by
  unfold lettersOf
  split
  · exact Nat.zero_le _
  · exact Nat.le_refl _
theorem wordOf_text (p : Pt) : (wordOf p).text.size ≤ p.text.size := by
  unfold wordOf
  split
  · exact lettersOf_text p
  · split
    · exact Nat.zero_le _
    · split <;> exact drop_size _ _
theorem splitRev_text (l : List Pt) (w : Wd) (h : w ∈ splitRev l) : ∃ p ∈ l, w = wordOf p := by
  have key : ∀ (l : List Pt) (o : List Wd) (w : Wd), w ∈ l.foldl splitStep o → w ∈ o ∨ ∃ p ∈ l, w = wordOf p := by
    intro l
    induction l with
    | nil => intro o w h; exact .inl h
    | cons p r ih =>
      intro o w h
      rcases ih _ w h with h | ⟨q, hq, e⟩
      · unfold splitStep at h
        split at h
        · rcases List.mem_append.1 h with h | h
          · exact .inl h
          · exact .inr ⟨p, by simp, by simpa using h⟩
        · exact .inl h
      · exact .inr ⟨q, by simp [hq], e⟩
  rcases key l.reverse [] w h with h | ⟨p, hp, e⟩
  · simp at h
  · exact ⟨p, by simpa using hp, e⟩
theorem splitOf_text (v : Str) (hv : v.size ≤ maxLen) (w : Wd) (h : w ∈ splitOf v) : w.text.size ≤ maxLen := by
  obtain ⟨p, hp, rfl⟩ := splitRev_text _ w (by simpa [splitOf] using h)
  have := partsOf_text (lowerOf v) p hp (by rw [lowerOf_size]; exact hv)
  have := wordOf_text p
  omega
theorem splitOf_length (v : Str) : (splitOf v).length ≤ v.size + 1 := by
  have h1 := splitRev_length (partsOf (lowerOf v))
  have h2 := partsOf_length (lowerOf v)
  rw [lowerOf_size] at h2
  simp only [splitOf, List.length_reverse]
  omega

theorem chk_t {c : Prop} [Decidable c] {α : Type} {x : Option α} (h : c) : chk c x = x := by unfold chk; rw [if_pos h]

theorem big_ok : (4194304 : Nat) ≤ maxLen := by decide
theorem g_Split_eq (n : Nat) (v : Str) (h : v.size ≤ 4194303) : g_words_Split n v = some (splitOf v) := chk_t h
theorem g_order_Words_eq (n : Nat) (a b : Str) (ha : a.size ≤ 4194303) (hb : b.size ≤ 4194303) : g_order_Words n (splitOf a) (splitOf b) = some (cmpV a b) := by
  have h1 := splitOf_length a
  have h2 := splitOf_length b
  have hm := big_ok
  exact chk_t ⟨by omega, by omega, fun w h => splitOf_text a (by omega) w h, fun w h => splitOf_text b (by omega) w h⟩
theorem g_order_Compare_eq (n : Nat) (a b : Str) (ha : a.size ≤ 4194303) (hb : b.size ≤ 4194303) : g_order_Compare n a b = some (cmpV a b) := by
  unfold g_order_Compare
  rw [g_Split_eq n a ha, g_Split_eq n b hb]
  simp only [Option.bind_some]
  rw [g_order_Words_eq n a b ha hb]
  rfl
theorem g_cmpS_eq (n : Nat) (a b : Str) : g_cmp_Compare_string n a b = some (strCmp a b) := by
  unfold g_cmp_Compare_string strCmp
  have h1 : ∀ x, g_cmp_isNaN_string n x = some false := fun x => by simp [g_cmp_isNaN_string]
  rw [h1, h1]
  simp only [Option.bind_some]
  by_cases e1 : Op.bytesLess a.toList b.toList = true
  · simp [e1]
  · by_cases e2 : a.toList == b.toList
    · simp [e1, e2]
    · simp [e1, e2]
theorem g_Or2_eq (n : Nat) (x y : Int) : g_cmp_Or_int (n + 3) [x, y] = some (if x ≠ 0 then x else y) := by
  have e : ∀ z : Int, z ≠ 0 → (z != 0) = true := fun z h => by simpa using h
  by_cases h1 : x = 0
  · by_cases h2 : y = 0
    · subst h1 h2; simp [g_cmp_Or_int, g_cmp_Or_int.l14, g_cmp_Or_int.l14b, g_cmp_Or_int.k14, chk, in64]
    · subst h1; simp [g_cmp_Or_int, g_cmp_Or_int.l14, g_cmp_Or_int.l14b, g_cmp_Or_int.k14, chk, in64, e y h2]
  · simp [g_cmp_Or_int, g_cmp_Or_int.l14, g_cmp_Or_int.l14b, g_cmp_Or_int.k14, chk, in64, h1, e x h1]
theorem g_order_whole_eq (n : Nat) (a b : Str) (ha : a.size ≤ 4194303) (hb : b.size ≤ 4194303) : g_order_whole (n + 3) a b = some (wholeC a b) := by
  unfold g_order_whole
  rw [g_order_Compare_eq _ a b ha hb, g_cmpS_eq]
  simp only [Option.bind_some]
  rw [g_Or2_eq]
  rfl

/-! ### sorted -/
def sortV (xs : List Str) : List Str := xs.mergeSort fun x y => !(ltOf wholeC) y x
theorem sortV_length (xs : List Str) : (sortV xs).length = xs.length := by simp [sortV]
theorem TotPre.swo {α : Type} {c : α → α → Int} (h : TotPre c) : SWO (ltOf c) where
  irrefl x := by have := h.refl x; simp [ltOf, this]
  trans x y z h1 h2 := by
    simp only [ltOf, decide_eq_true_eq] at *
    exact h.lt_le h1 (by omega)
  ntrans x y z h1 h2 := by
    simp only [ltOf, decide_eq_false_iff_not] at *
    have a1 := h.anti x y
    have a2 := h.anti y z
    have a3 := h.anti x z
    have := h.trans z y x (by omega) (by omega)
    omega
abbrev Sm : Type := {s : Str // s.size ≤ 4194303}
def wholeS (x y : Sm) : Int := wholeC x.1 y.1
theorem totCS : TotPre wholeS := totC.pull Subtype.val
theorem attach_map : ∀ (xs : List Str) (h : ∀ x ∈ xs, x.size ≤ 4194303), ∃ ys : List Sm, ys.map Subtype.val = xs
  | [], _ => ⟨[], rfl⟩
  | x :: r, h => by
    obtain ⟨ys, hy⟩ := attach_map r (fun x hx => h x (by simp [hx]))
    exact ⟨⟨x, h x (by simp)⟩ :: ys, by simp [hy]⟩

def g_slices_SortFunc_string_string__order_whole (n : Nat) (xs : List Str) : Option (List Str) := chk (xs.length ≤ 4194304 ∧ ∀ x ∈ xs, x.size ≤ 4194303) <| some (sortV xs)
theorem g_slices_SortFunc_string_string__order_whole.len (n : Nat) (xs v : List Str) (h : g_slices_SortFunc_string_string__order_whole n xs = some v) : v.length = xs.length := by
  obtain ⟨c1, h⟩ := chk_some h
  obtain rfl := Option.some.inj h
  exact sortV_length xs
instance : Inhabited Sm := ⟨⟨emp, Nat.zero_le _⟩⟩
theorem g_slices_SortFunc_string_string__order_whole.eff (n : Nat) (xs v : List Str) (h : g_slices_SortFunc_string_string__order_whole n xs = some v) {st : List AO} {s k e : Nat} (hst : st[s]? = some (.row k e 1 (xs.map encStr))) :
    Eff Tryd.prog 46 [.h s k 0 xs.length, fnAV 38] st [] (st.set s (.row k e 1 (v.map encStr))) := by
  obtain ⟨⟨c1, c2⟩, h⟩ := chk_some h
  obtain rfl := Option.some.inj h
  obtain ⟨ys, rfl⟩ := attach_map xs c2
  have L := Tryd.sortStr
  have := sort1_eff (P := Tryd.prog) (α := Sm) L (fun x => .string x.1) (fun x => rfl) (fun x => rfl) (fun x => rfl) wholeS totCS.swo
    (fun x y h1 h2 => by
      simp only [ltOf, decide_eq_false_iff_not] at h1 h2
      have a1 := totCS.anti x y
      exact Subtype.ext (wholeC_zero (a := x.1) (b := y.1) (by show wholeS x y = 0; omega)))
    38 (by kernel_rfl) (fun x y => g_order_whole.ok 3 x.1 y.1 _ (g_order_whole_eq 0 x.1 y.1 x.2 y.2))
    (fun p cap fv w => AnyF.slices_SortFunc_none { L with } p cap fv w) (st := st) (s := s) (k := k) (e := e) (xs := ys) (by rw [hst]; simp [encStr]) (by simpa using c1)
  have e1 : sortV (ys.map Subtype.val) = (ys.mergeSort fun x y => !(ltOf wholeS) y x).map Subtype.val := by
    unfold sortV
    rw [List.map_mergeSort]
    intro a ha b hb
    rfl
  rw [e1]
  simp only [List.length_map, List.map_map] at this ⊢
  exact this
end Go.Proofs.Nw.K
end
section
/- Printed by a program of mine (pg.py): functions that may have no answer, and that the code comes to them. -/
open Go Go.RowKit Go.Proofs
set_option linter.unusedVariables false
set_option linter.unusedSimpArgs false
set_option maxHeartbeats 1000000
namespace Go.Proofs.Nw.K

/-! ### newel/order.Sort -/
def g_order_Sort (n : Nat) (a0 : (List Str)) : Option ((List Str)) :=
  (g_slices_Clone_string_string n a0).bind fun y1 =>
  (g_slices_SortFunc_string_string__order_whole n y1).bind fun y2 =>
  some y2
theorem g_order_Sort.ok (n : Nat) (a0 : (List Str)) (r : (List Str)) (h : g_order_Sort n a0 = some r) : Impl Tryd.prog 25 [.one (.tl Str 1 encStr emp a0)] [.one (.tl Str 1 encStr emp r)] := by
  refine impl_wp tabOk Tryd.func25 rfl rfl (by kernel_rfl) ?_
  unfold g_order_Sort at h
  refine WP_seq ?_
  refine vcc_sound _ _ _ tabOk (by exact rfl) ?_
  repeat (first | refine Ob.mk (by first | rfl | omega | assumption | exact ⟨rfl, rfl, (List.length_map _).symm⟩ | exact ⟨rfl, rfl, by rw [List.length_map]; omega⟩) ?_ | refine Br.t ?_ | refine Br.f ?_)
  refine WP_seq ?_
  refine vcc_sound _ _ _ tabOk (by exact rfl) ?_
  obtain ⟨y1, hy1, h⟩ := bind_some h
  repeat (first | refine Ob.mk (by first | rfl | omega | assumption | exact ⟨rfl, rfl, (List.length_map _).symm⟩ | exact ⟨rfl, rfl, by rw [List.length_map]; omega⟩) ?_ | refine Br.t ?_ | refine Br.f ?_)
  refine CallD.ownt 9 1 encStr y1 (g_slices_Clone_string_string.own n a0 y1 hy1) ?_
  repeat (first | refine Ob.mk (by first | rfl | omega | assumption | exact ⟨rfl, rfl, (List.length_map _).symm⟩ | exact ⟨rfl, rfl, by rw [List.length_map]; omega⟩) ?_ | refine Br.t ?_ | refine Br.f ?_)
  refine WP_seq ?_
  refine vcc_sound _ _ _ tabOk (by exact rfl) ?_
  obtain ⟨y2, hy2, h⟩ := bind_some h
  have hly2 := g_slices_SortFunc_string_string__order_whole.len n y1 y2 hy2
  repeat (first | refine Ob.mk (by first | rfl | omega | assumption | exact ⟨rfl, rfl, (List.length_map _).symm⟩ | exact ⟨rfl, rfl, by rw [List.length_map]; omega⟩) ?_ | refine Br.t ?_ | refine Br.f ?_)
  refine CallE.eff _ _ (g_slices_SortFunc_string_string__order_whole.eff n y1 y2 hy2 rfl) ?_
  repeat (first | refine Ob.mk (by first | rfl | omega | assumption | exact ⟨rfl, rfl, (List.length_map _).symm⟩ | exact ⟨rfl, rfl, by rw [List.length_map]; omega⟩) ?_ | refine Br.t ?_ | refine Br.f ?_)
  refine WP_seq ?_
  refine vcc_sound _ _ _ tabOk (by exact rfl) ?_
  repeat (first | refine Ob.mk (by first | rfl | omega | assumption | exact ⟨rfl, rfl, (List.length_map _).symm⟩ | exact ⟨rfl, rfl, by rw [List.length_map]; omega⟩) ?_ | refine Br.t ?_ | refine Br.f ?_)
  refine WP_ret ?_
  obtain rfl := Option.some.inj h
  repeat (first | refine Ob.mk (by first | rfl | omega | assumption | exact ⟨rfl, rfl, (List.length_map _).symm⟩ | exact ⟨rfl, rfl, by rw [List.length_map]; omega⟩) ?_ | refine Br.t ?_ | refine Br.f ?_)
  exact ⟨DLe.tl emp rfl, trivial⟩

/-! ### newel/newellaw06.awake -/
def g_newellaw06_awake (n : Nat) : Option (Bool) :=
  (g_order_Compare n (⟨#[49, 45, 97, 108, 112, 104, 97]⟩ : Str) (⟨#[49]⟩ : Str)).bind fun y1 =>
  bif (y1 == (-1)) then (
    (g_order_Compare n (⟨#[49, 46, 48]⟩ : Str) (⟨#[49]⟩ : Str)).bind fun y3 =>
    bif (y3 == 0) then (
      (g_order_Compare n (⟨#[49, 46, 49, 48]⟩ : Str) (⟨#[49, 46, 57]⟩ : Str)).bind fun y5 =>
      bif (y5 == 1) then (
        (g_order_Sort n ([(⟨#[50]⟩ : Str), (⟨#[49]⟩ : Str)])).bind fun y7 =>
        (g_newelhelp_Plain_string n y7 ([(⟨#[49]⟩ : Str), (⟨#[50]⟩ : Str)])).bind fun y8 =>
        some y8
      ) else (
        some false
      )
    ) else (
      some false
    )
  ) else (
    some false
  )
theorem g_newellaw06_awake.ok (n : Nat) (r : Bool) (h : g_newellaw06_awake n = some r) : Impl Tryd.prog 13 [] [.one (dbool r)] := by
  refine impl_wp tabOk Tryd.func13 rfl rfl (by kernel_rfl) ?_
  unfold g_newellaw06_awake at h
  refine WP_seq ?_
  refine vcc_sound _ _ _ tabOk (by exact rfl) ?_
  repeat (first | refine Ob.mk (by first | rfl | omega | assumption | exact ⟨rfl, rfl, (List.length_map _).symm⟩ | exact ⟨rfl, rfl, by rw [List.length_map]; omega⟩) ?_ | refine Br.t ?_ | refine Br.f ?_)
  refine WP_seq ?_
  refine vcc_sound _ _ _ tabOk (by exact rfl) ?_
  obtain ⟨y1, hy1, h⟩ := bind_some h
  repeat (first | refine Ob.mk (by first | rfl | omega | assumption | exact ⟨rfl, rfl, (List.length_map _).symm⟩ | exact ⟨rfl, rfl, by rw [List.length_map]; omega⟩) ?_ | refine Br.t ?_ | refine Br.f ?_)
  refine CallD.mk _ _ (g_order_Compare.ok n (⟨#[49, 45, 97, 108, 112, 104, 97]⟩ : Str) (⟨#[49]⟩ : Str) y1 hy1) (by exact ⟨DLe.refl _, DLe.refl _, trivial⟩) ?_
  repeat (first | refine Ob.mk (by first | rfl | omega | assumption | exact ⟨rfl, rfl, (List.length_map _).symm⟩ | exact ⟨rfl, rfl, by rw [List.length_map]; omega⟩) ?_ | refine Br.t ?_ | refine Br.f ?_)
  refine Br.mk (fun b2 => ?_) (fun b2 => ?_)
  · replace h := bif_t b2 h
    obtain ⟨y3, hy3, h⟩ := bind_some h
    repeat (first | refine Ob.mk (by first | rfl | omega | assumption | exact ⟨rfl, rfl, (List.length_map _).symm⟩ | exact ⟨rfl, rfl, by rw [List.length_map]; omega⟩) ?_ | refine Br.t ?_ | refine Br.f ?_)
    refine CallD.mk _ _ (g_order_Compare.ok n (⟨#[49, 46, 48]⟩ : Str) (⟨#[49]⟩ : Str) y3 hy3) (by exact ⟨DLe.refl _, DLe.refl _, trivial⟩) ?_
    repeat (first | refine Ob.mk (by first | rfl | omega | assumption | exact ⟨rfl, rfl, (List.length_map _).symm⟩ | exact ⟨rfl, rfl, by rw [List.length_map]; omega⟩) ?_ | refine Br.t ?_ | refine Br.f ?_)
    refine Br.mk (fun b4 => ?_) (fun b4 => ?_)
    · replace h := bif_t b4 h
      obtain ⟨y5, hy5, h⟩ := bind_some h
      repeat (first | refine Ob.mk (by first | rfl | omega | assumption | exact ⟨rfl, rfl, (List.length_map _).symm⟩ | exact ⟨rfl, rfl, by rw [List.length_map]; omega⟩) ?_ | refine Br.t ?_ | refine Br.f ?_)
      refine CallD.mk _ _ (g_order_Compare.ok n (⟨#[49, 46, 49, 48]⟩ : Str) (⟨#[49, 46, 57]⟩ : Str) y5 hy5) (by exact ⟨DLe.refl _, DLe.refl _, trivial⟩) ?_
      repeat (first | refine Ob.mk (by first | rfl | omega | assumption | exact ⟨rfl, rfl, (List.length_map _).symm⟩ | exact ⟨rfl, rfl, by rw [List.length_map]; omega⟩) ?_ | refine Br.t ?_ | refine Br.f ?_)
      refine Br.mk (fun b6 => ?_) (fun b6 => ?_)
      · replace h := bif_t b6 h
        repeat (first | refine Ob.mk (by first | rfl | omega | assumption | exact ⟨rfl, rfl, (List.length_map _).symm⟩ | exact ⟨rfl, rfl, by rw [List.length_map]; omega⟩) ?_ | refine Br.t ?_ | refine Br.f ?_)
        refine NewS.ty encStr emp [(⟨#[50]⟩ : Str), (⟨#[49]⟩ : Str)] rfl ?_
        obtain ⟨y7, hy7, h⟩ := bind_some h
        repeat (first | refine Ob.mk (by first | rfl | omega | assumption | exact ⟨rfl, rfl, (List.length_map _).symm⟩ | exact ⟨rfl, rfl, by rw [List.length_map]; omega⟩) ?_ | refine Br.t ?_ | refine Br.f ?_)
        refine CallD.mk _ _ (g_order_Sort.ok n ([(⟨#[50]⟩ : Str), (⟨#[49]⟩ : Str)]) y7 hy7) (by exact ⟨DLe.refl _, trivial⟩) ?_
        repeat (first | refine Ob.mk (by first | rfl | omega | assumption | exact ⟨rfl, rfl, (List.length_map _).symm⟩ | exact ⟨rfl, rfl, by rw [List.length_map]; omega⟩) ?_ | refine Br.t ?_ | refine Br.f ?_)
        refine NewS.ty encStr emp [(⟨#[49]⟩ : Str), (⟨#[50]⟩ : Str)] rfl ?_
        obtain ⟨y8, hy8, h⟩ := bind_some h
        repeat (first | refine Ob.mk (by first | rfl | omega | assumption | exact ⟨rfl, rfl, (List.length_map _).symm⟩ | exact ⟨rfl, rfl, by rw [List.length_map]; omega⟩) ?_ | refine Br.t ?_ | refine Br.f ?_)
        refine CallD.mk _ _ (g_newelhelp_Plain_string.ok n y7 ([(⟨#[49]⟩ : Str), (⟨#[50]⟩ : Str)]) y8 hy8) (by exact ⟨DLe.refl _, DLe.refl _, trivial⟩) ?_
        repeat (first | refine Ob.mk (by first | rfl | omega | assumption | exact ⟨rfl, rfl, (List.length_map _).symm⟩ | exact ⟨rfl, rfl, by rw [List.length_map]; omega⟩) ?_ | refine Br.t ?_ | refine Br.f ?_)
        refine WP_ret ?_
        obtain rfl := Option.some.inj h
        repeat (first | refine Ob.mk (by first | rfl | omega | assumption | exact ⟨rfl, rfl, (List.length_map _).symm⟩ | exact ⟨rfl, rfl, by rw [List.length_map]; omega⟩) ?_ | refine Br.t ?_ | refine Br.f ?_)
        exact ⟨DLe.refl _, trivial⟩
      · replace h := bif_f b6 h
        repeat (first | refine Ob.mk (by first | rfl | omega | assumption | exact ⟨rfl, rfl, (List.length_map _).symm⟩ | exact ⟨rfl, rfl, by rw [List.length_map]; omega⟩) ?_ | refine Br.t ?_ | refine Br.f ?_)
        refine WP_ret ?_
        obtain rfl := Option.some.inj h
        repeat (first | refine Ob.mk (by first | rfl | omega | assumption | exact ⟨rfl, rfl, (List.length_map _).symm⟩ | exact ⟨rfl, rfl, by rw [List.length_map]; omega⟩) ?_ | refine Br.t ?_ | refine Br.f ?_)
        exact ⟨DLe.refl _, trivial⟩
    · replace h := bif_f b4 h
      repeat (first | refine Ob.mk (by first | rfl | omega | assumption | exact ⟨rfl, rfl, (List.length_map _).symm⟩ | exact ⟨rfl, rfl, by rw [List.length_map]; omega⟩) ?_ | refine Br.t ?_ | refine Br.f ?_)
      refine WP_ret ?_
      obtain rfl := Option.some.inj h
      repeat (first | refine Ob.mk (by first | rfl | omega | assumption | exact ⟨rfl, rfl, (List.length_map _).symm⟩ | exact ⟨rfl, rfl, by rw [List.length_map]; omega⟩) ?_ | refine Br.t ?_ | refine Br.f ?_)
      exact ⟨DLe.refl _, trivial⟩
  · replace h := bif_f b2 h
    repeat (first | refine Ob.mk (by first | rfl | omega | assumption | exact ⟨rfl, rfl, (List.length_map _).symm⟩ | exact ⟨rfl, rfl, by rw [List.length_map]; omega⟩) ?_ | refine Br.t ?_ | refine Br.f ?_)
    refine WP_ret ?_
    obtain rfl := Option.some.inj h
    repeat (first | refine Ob.mk (by first | rfl | omega | assumption | exact ⟨rfl, rfl, (List.length_map _).symm⟩ | exact ⟨rfl, rfl, by rw [List.length_map]; omega⟩) ?_ | refine Br.t ?_ | refine Br.f ?_)
    exact ⟨DLe.refl _, trivial⟩

/-! ### newel/newellaw06.OrderOne -/
def g_newellaw06_OrderOne.k36 (n : Nat) (y7 : Int) (y8 : Int) (y9 : Int) : Option (Bool) :=
  bif (y7 != 0) then (
    bif (y8 != 0) then (
      some true
    ) else (
      some (y7 == y9)
    )
  ) else (
    bif (y8 == y9) then (
      bif (y8 != 0) then (
        some true
      ) else (
        some (y7 == y9)
      )
    ) else (
      some false
    )
  )
def g_newellaw06_OrderOne (n : Nat) (a0 : Str) (a1 : Str) (a2 : Str) : Option (Bool) :=
  (g_newellaw06_few n [a0, a1, a2]).bind fun y4 =>
  bif (!y4) then (
    (g_newellaw06_awake n).bind fun y6 =>
    some y6
  ) else (
    (g_order_Compare n a0 a1).bind fun y7 =>
    (g_order_Compare n a1 a2).bind fun y8 =>
    (g_order_Compare n a0 a2).bind fun y9 =>
    (g_newellaw06_awake n).bind fun y17 =>
    bif (!y17) then (
      some false
    ) else (
      (g_order_Compare n a0 a0).bind fun y19 =>
      bif (y19 != 0) then (
        some false
      ) else (
        (g_order_Compare n a1 a0).bind fun y21 =>
        chk (in64 (0 - y21)) <|
        bif (y7 != (0 - y21)) then (
          some false
        ) else (
          bif (decide (y7 ≤ 0)) then (
            bif (decide (y8 ≤ 0)) then (
              bif (decide (y9 > 0)) then (
                some false
              ) else (
                bif (decide (y7 ≥ 0)) then (
                  bif (decide (y8 ≥ 0)) then (
                    bif (decide (y9 < 0)) then (
                      some false
                    ) else (
                      g_newellaw06_OrderOne.k36 n y7 y8 y9
                    )
                  ) else (
                    g_newellaw06_OrderOne.k36 n y7 y8 y9
                  )
                ) else (
                  g_newellaw06_OrderOne.k36 n y7 y8 y9
                )
              )
            ) else (
              bif (decide (y7 ≥ 0)) then (
                bif (decide (y8 ≥ 0)) then (
                  bif (decide (y9 < 0)) then (
                    some false
                  ) else (
                    g_newellaw06_OrderOne.k36 n y7 y8 y9
                  )
                ) else (
                  g_newellaw06_OrderOne.k36 n y7 y8 y9
                )
              ) else (
                g_newellaw06_OrderOne.k36 n y7 y8 y9
              )
            )
          ) else (
            bif (decide (y7 ≥ 0)) then (
              bif (decide (y8 ≥ 0)) then (
                bif (decide (y9 < 0)) then (
                  some false
                ) else (
                  g_newellaw06_OrderOne.k36 n y7 y8 y9
                )
              ) else (
                g_newellaw06_OrderOne.k36 n y7 y8 y9
              )
            ) else (
              g_newellaw06_OrderOne.k36 n y7 y8 y9
            )
          )
        )
      )
    )
  )
theorem g_newellaw06_OrderOne.ok (n : Nat) (a0 : Str) (a1 : Str) (a2 : Str) (r : Bool) (h : g_newellaw06_OrderOne n a0 a1 a2 = some r) : Impl Tryd.prog 3 [.one (dstr a0), .one (dstr a1), .one (dstr a2)] [.one (dbool r)] := by
  refine impl_wp tabOk Tryd.func3 rfl rfl (by kernel_rfl) ?_
  unfold g_newellaw06_OrderOne at h
  refine WP_seq ?_
  refine vcc_sound _ _ _ tabOk (by exact rfl) ?_
  repeat (first | refine Ob.mk (by first | rfl | omega | assumption | exact ⟨rfl, rfl, (List.length_map _).symm⟩ | exact ⟨rfl, rfl, by rw [List.length_map]; omega⟩) ?_ | refine Br.t ?_ | refine Br.f ?_)
  refine WP_seq ?_
  refine WP_seq ?_
  refine vcc_sound _ _ _ tabOk (by exact rfl) ?_
  repeat (first | refine Ob.mk (by first | rfl | omega | assumption | exact ⟨rfl, rfl, (List.length_map _).symm⟩ | exact ⟨rfl, rfl, by rw [List.length_map]; omega⟩) ?_ | refine Br.t ?_ | refine Br.f ?_)
  refine NewS.ty encStr emp [a0, a1, a2] rfl ?_
  obtain ⟨y4, hy4, h⟩ := bind_some h
  repeat (first | refine Ob.mk (by first | rfl | omega | assumption | exact ⟨rfl, rfl, (List.length_map _).symm⟩ | exact ⟨rfl, rfl, by rw [List.length_map]; omega⟩) ?_ | refine Br.t ?_ | refine Br.f ?_)
  refine CallD.mk _ _ (g_newellaw06_few.ok n [a0, a1, a2] y4 hy4) (by exact ⟨DLe.refl _, trivial⟩) ?_
  repeat (first | refine Ob.mk (by first | rfl | omega | assumption | exact ⟨rfl, rfl, (List.length_map _).symm⟩ | exact ⟨rfl, rfl, by rw [List.length_map]; omega⟩) ?_ | refine Br.t ?_ | refine Br.f ?_)
  refine vcc_sound _ _ _ tabOk (by exact rfl) ?_
  repeat (first | refine Ob.mk (by first | rfl | omega | assumption | exact ⟨rfl, rfl, (List.length_map _).symm⟩ | exact ⟨rfl, rfl, by rw [List.length_map]; omega⟩) ?_ | refine Br.t ?_ | refine Br.f ?_)
  refine Br.mk (fun b5 => ?_) (fun b5 => ?_)
  · replace h := bif_t b5 h
    refine WP_seq ?_
    refine vcc_sound _ _ _ tabOk (by exact rfl) ?_
    obtain ⟨y6, hy6, h⟩ := bind_some h
    repeat (first | refine Ob.mk (by first | rfl | omega | assumption | exact ⟨rfl, rfl, (List.length_map _).symm⟩ | exact ⟨rfl, rfl, by rw [List.length_map]; omega⟩) ?_ | refine Br.t ?_ | refine Br.f ?_)
    refine CallD.mk _ _ (g_newellaw06_awake.ok n y6 hy6) (by exact trivial) ?_
    repeat (first | refine Ob.mk (by first | rfl | omega | assumption | exact ⟨rfl, rfl, (List.length_map _).symm⟩ | exact ⟨rfl, rfl, by rw [List.length_map]; omega⟩) ?_ | refine Br.t ?_ | refine Br.f ?_)
    refine WP_ret ?_
    obtain rfl := Option.some.inj h
    repeat (first | refine Ob.mk (by first | rfl | omega | assumption | exact ⟨rfl, rfl, (List.length_map _).symm⟩ | exact ⟨rfl, rfl, by rw [List.length_map]; omega⟩) ?_ | refine Br.t ?_ | refine Br.f ?_)
    exact ⟨DLe.refl _, trivial⟩
  · replace h := bif_f b5 h
    refine WP_skip ?_
    refine WP_seq ?_
    refine vcc_sound _ _ _ tabOk (by exact rfl) ?_
    obtain ⟨y7, hy7, h⟩ := bind_some h
    repeat (first | refine Ob.mk (by first | rfl | omega | assumption | exact ⟨rfl, rfl, (List.length_map _).symm⟩ | exact ⟨rfl, rfl, by rw [List.length_map]; omega⟩) ?_ | refine Br.t ?_ | refine Br.f ?_)
    refine CallD.mk _ _ (g_order_Compare.ok n a0 a1 y7 hy7) (by exact ⟨DLe.refl _, DLe.refl _, trivial⟩) ?_
    obtain ⟨y8, hy8, h⟩ := bind_some h
    repeat (first | refine Ob.mk (by first | rfl | omega | assumption | exact ⟨rfl, rfl, (List.length_map _).symm⟩ | exact ⟨rfl, rfl, by rw [List.length_map]; omega⟩) ?_ | refine Br.t ?_ | refine Br.f ?_)
    refine CallD.mk _ _ (g_order_Compare.ok n a1 a2 y8 hy8) (by exact ⟨DLe.refl _, DLe.refl _, trivial⟩) ?_
    obtain ⟨y9, hy9, h⟩ := bind_some h
    repeat (first | refine Ob.mk (by first | rfl | omega | assumption | exact ⟨rfl, rfl, (List.length_map _).symm⟩ | exact ⟨rfl, rfl, by rw [List.length_map]; omega⟩) ?_ | refine Br.t ?_ | refine Br.f ?_)
    refine CallD.mk _ _ (g_order_Compare.ok n a0 a2 y9 hy9) (by exact ⟨DLe.refl _, DLe.refl _, trivial⟩) ?_
    repeat (first | refine Ob.mk (by first | rfl | omega | assumption | exact ⟨rfl, rfl, (List.length_map _).symm⟩ | exact ⟨rfl, rfl, by rw [List.length_map]; omega⟩) ?_ | refine Br.t ?_ | refine Br.f ?_)
    refine WP_seq ?_
    refine WP_seq ?_
    refine vcc_sound _ _ _ tabOk (by exact rfl) ?_
    obtain ⟨y17, hy17, h⟩ := bind_some h
    repeat (first | refine Ob.mk (by first | rfl | omega | assumption | exact ⟨rfl, rfl, (List.length_map _).symm⟩ | exact ⟨rfl, rfl, by rw [List.length_map]; omega⟩) ?_ | refine Br.t ?_ | refine Br.f ?_)
    refine CallD.mk _ _ (g_newellaw06_awake.ok n y17 hy17) (by exact trivial) ?_
    repeat (first | refine Ob.mk (by first | rfl | omega | assumption | exact ⟨rfl, rfl, (List.length_map _).symm⟩ | exact ⟨rfl, rfl, by rw [List.length_map]; omega⟩) ?_ | refine Br.t ?_ | refine Br.f ?_)
    refine Br.mk (fun b18 => ?_) (fun b18 => ?_)
    · replace h := bif_t b18 h
      repeat (first | refine Ob.mk (by first | rfl | omega | assumption | exact ⟨rfl, rfl, (List.length_map _).symm⟩ | exact ⟨rfl, rfl, by rw [List.length_map]; omega⟩) ?_ | refine Br.t ?_ | refine Br.f ?_)
      refine vcc_sound _ _ _ tabOk (by exact rfl) ?_
      repeat (first | refine Ob.mk (by first | rfl | omega | assumption | exact ⟨rfl, rfl, (List.length_map _).symm⟩ | exact ⟨rfl, rfl, by rw [List.length_map]; omega⟩) ?_ | refine Br.t ?_ | refine Br.f ?_)
      refine WP_seq ?_
      refine vcc_sound _ _ _ tabOk (by exact rfl) ?_
      repeat (first | refine Ob.mk (by first | rfl | omega | assumption | exact ⟨rfl, rfl, (List.length_map _).symm⟩ | exact ⟨rfl, rfl, by rw [List.length_map]; omega⟩) ?_ | refine Br.t ?_ | refine Br.f ?_)
      refine WP_ret ?_
      obtain rfl := Option.some.inj h
      repeat (first | refine Ob.mk (by first | rfl | omega | assumption | exact ⟨rfl, rfl, (List.length_map _).symm⟩ | exact ⟨rfl, rfl, by rw [List.length_map]; omega⟩) ?_ | refine Br.t ?_ | refine Br.f ?_)
      exact ⟨DLe.refl _, trivial⟩
    · replace h := bif_f b18 h
      obtain ⟨y19, hy19, h⟩ := bind_some h
      repeat (first | refine Ob.mk (by first | rfl | omega | assumption | exact ⟨rfl, rfl, (List.length_map _).symm⟩ | exact ⟨rfl, rfl, by rw [List.length_map]; omega⟩) ?_ | refine Br.t ?_ | refine Br.f ?_)
      refine CallD.mk _ _ (g_order_Compare.ok n a0 a0 y19 hy19) (by exact ⟨DLe.refl _, DLe.refl _, trivial⟩) ?_
      repeat (first | refine Ob.mk (by first | rfl | omega | assumption | exact ⟨rfl, rfl, (List.length_map _).symm⟩ | exact ⟨rfl, rfl, by rw [List.length_map]; omega⟩) ?_ | refine Br.t ?_ | refine Br.f ?_)
      refine Br.mk (fun b20 => ?_) (fun b20 => ?_)
      · replace h := bif_t b20 h
        repeat (first | refine Ob.mk (by first | rfl | omega | assumption | exact ⟨rfl, rfl, (List.length_map _).symm⟩ | exact ⟨rfl, rfl, by rw [List.length_map]; omega⟩) ?_ | refine Br.t ?_ | refine Br.f ?_)
        refine vcc_sound _ _ _ tabOk (by exact rfl) ?_
        repeat (first | refine Ob.mk (by first | rfl | omega | assumption | exact ⟨rfl, rfl, (List.length_map _).symm⟩ | exact ⟨rfl, rfl, by rw [List.length_map]; omega⟩) ?_ | refine Br.t ?_ | refine Br.f ?_)
        refine WP_seq ?_
        refine vcc_sound _ _ _ tabOk (by exact rfl) ?_
        repeat (first | refine Ob.mk (by first | rfl | omega | assumption | exact ⟨rfl, rfl, (List.length_map _).symm⟩ | exact ⟨rfl, rfl, by rw [List.length_map]; omega⟩) ?_ | refine Br.t ?_ | refine Br.f ?_)
        refine WP_ret ?_
        obtain rfl := Option.some.inj h
        repeat (first | refine Ob.mk (by first | rfl | omega | assumption | exact ⟨rfl, rfl, (List.length_map _).symm⟩ | exact ⟨rfl, rfl, by rw [List.length_map]; omega⟩) ?_ | refine Br.t ?_ | refine Br.f ?_)
        exact ⟨DLe.refl _, trivial⟩
      · replace h := bif_f b20 h
        obtain ⟨y21, hy21, h⟩ := bind_some h
        repeat (first | refine Ob.mk (by first | rfl | omega | assumption | exact ⟨rfl, rfl, (List.length_map _).symm⟩ | exact ⟨rfl, rfl, by rw [List.length_map]; omega⟩) ?_ | refine Br.t ?_ | refine Br.f ?_)
        refine CallD.mk _ _ (g_order_Compare.ok n a1 a0 y21 hy21) (by exact ⟨DLe.refl _, DLe.refl _, trivial⟩) ?_
        obtain ⟨c22, h⟩ := chk_some h
        repeat (first | refine Ob.mk (by first | rfl | omega | assumption | exact ⟨rfl, rfl, (List.length_map _).symm⟩ | exact ⟨rfl, rfl, by rw [List.length_map]; omega⟩) ?_ | refine Br.t ?_ | refine Br.f ?_)
        refine vcc_sound _ _ _ tabOk (by exact rfl) ?_
        repeat (first | refine Ob.mk (by first | rfl | omega | assumption | exact ⟨rfl, rfl, (List.length_map _).symm⟩ | exact ⟨rfl, rfl, by rw [List.length_map]; omega⟩) ?_ | refine Br.t ?_ | refine Br.f ?_)
        refine Br.mk (fun b23 => ?_) (fun b23 => ?_)
        · replace h := bif_t b23 h
          refine WP_seq ?_
          refine vcc_sound _ _ _ tabOk (by exact rfl) ?_
          repeat (first | refine Ob.mk (by first | rfl | omega | assumption | exact ⟨rfl, rfl, (List.length_map _).symm⟩ | exact ⟨rfl, rfl, by rw [List.length_map]; omega⟩) ?_ | refine Br.t ?_ | refine Br.f ?_)
          refine WP_ret ?_
          obtain rfl := Option.some.inj h
          repeat (first | refine Ob.mk (by first | rfl | omega | assumption | exact ⟨rfl, rfl, (List.length_map _).symm⟩ | exact ⟨rfl, rfl, by rw [List.length_map]; omega⟩) ?_ | refine Br.t ?_ | refine Br.f ?_)
          exact ⟨DLe.refl _, trivial⟩
        · replace h := bif_f b23 h
          refine WP_skip ?_
          refine WP_seq_cut (α := {p : Unit // g_newellaw06_OrderOne.k36 n y7 y8 y9 = some r}) (fun p => ofL [(7, .int y7), (8, .int y8), (9, .int y9)]) (fun p => []) ?_ ?_
          rotate_left
          · rintro ⟨⟨⟩, h⟩
            replace h : g_newellaw06_OrderOne.k36 n y7 y8 y9 = some r := h
            unfold g_newellaw06_OrderOne.k36 at h
            try dsimp only
            refine WP_seq ?_
            refine vcc_sound _ _ _ tabOk (by exact rfl) ?_
            repeat (first | refine Ob.mk (by first | rfl | omega | assumption | exact ⟨rfl, rfl, (List.length_map _).symm⟩ | exact ⟨rfl, rfl, by rw [List.length_map]; omega⟩) ?_ | refine Br.t ?_ | refine Br.f ?_)
            refine Br.mk (fun b37 => ?_) (fun b37 => ?_)
            · replace h := bif_t b37 h
              repeat (first | refine Ob.mk (by first | rfl | omega | assumption | exact ⟨rfl, rfl, (List.length_map _).symm⟩ | exact ⟨rfl, rfl, by rw [List.length_map]; omega⟩) ?_ | refine Br.t ?_ | refine Br.f ?_)
              refine Br.mk (fun b38 => ?_) (fun b38 => ?_)
              · replace h := bif_t b38 h
                repeat (first | refine Ob.mk (by first | rfl | omega | assumption | exact ⟨rfl, rfl, (List.length_map _).symm⟩ | exact ⟨rfl, rfl, by rw [List.length_map]; omega⟩) ?_ | refine Br.t ?_ | refine Br.f ?_)
                refine WP_ret ?_
                obtain rfl := Option.some.inj h
                repeat (first | refine Ob.mk (by first | rfl | omega | assumption | exact ⟨rfl, rfl, (List.length_map _).symm⟩ | exact ⟨rfl, rfl, by rw [List.length_map]; omega⟩) ?_ | refine Br.t ?_ | refine Br.f ?_)
                exact ⟨DLe.refl _, trivial⟩
              · replace h := bif_f b38 h
                repeat (first | refine Ob.mk (by first | rfl | omega | assumption | exact ⟨rfl, rfl, (List.length_map _).symm⟩ | exact ⟨rfl, rfl, by rw [List.length_map]; omega⟩) ?_ | refine Br.t ?_ | refine Br.f ?_)
                refine WP_ret ?_
                obtain rfl := Option.some.inj h
                repeat (first | refine Ob.mk (by first | rfl | omega | assumption | exact ⟨rfl, rfl, (List.length_map _).symm⟩ | exact ⟨rfl, rfl, by rw [List.length_map]; omega⟩) ?_ | refine Br.t ?_ | refine Br.f ?_)
                exact ⟨DLe.refl _, trivial⟩
            · replace h := bif_f b37 h
              repeat (first | refine Ob.mk (by first | rfl | omega | assumption | exact ⟨rfl, rfl, (List.length_map _).symm⟩ | exact ⟨rfl, rfl, by rw [List.length_map]; omega⟩) ?_ | refine Br.t ?_ | refine Br.f ?_)
              refine Br.mk (fun b39 => ?_) (fun b39 => ?_)
              · replace h := bif_t b39 h
                repeat (first | refine Ob.mk (by first | rfl | omega | assumption | exact ⟨rfl, rfl, (List.length_map _).symm⟩ | exact ⟨rfl, rfl, by rw [List.length_map]; omega⟩) ?_ | refine Br.t ?_ | refine Br.f ?_)
                refine Br.mk (fun b40 => ?_) (fun b40 => ?_)
                · replace h := bif_t b40 h
                  repeat (first | refine Ob.mk (by first | rfl | omega | assumption | exact ⟨rfl, rfl, (List.length_map _).symm⟩ | exact ⟨rfl, rfl, by rw [List.length_map]; omega⟩) ?_ | refine Br.t ?_ | refine Br.f ?_)
                  refine WP_ret ?_
                  obtain rfl := Option.some.inj h
                  repeat (first | refine Ob.mk (by first | rfl | omega | assumption | exact ⟨rfl, rfl, (List.length_map _).symm⟩ | exact ⟨rfl, rfl, by rw [List.length_map]; omega⟩) ?_ | refine Br.t ?_ | refine Br.f ?_)
                  exact ⟨DLe.refl _, trivial⟩
                · replace h := bif_f b40 h
                  repeat (first | refine Ob.mk (by first | rfl | omega | assumption | exact ⟨rfl, rfl, (List.length_map _).symm⟩ | exact ⟨rfl, rfl, by rw [List.length_map]; omega⟩) ?_ | refine Br.t ?_ | refine Br.f ?_)
                  refine WP_ret ?_
                  obtain rfl := Option.some.inj h
                  repeat (first | refine Ob.mk (by first | rfl | omega | assumption | exact ⟨rfl, rfl, (List.length_map _).symm⟩ | exact ⟨rfl, rfl, by rw [List.length_map]; omega⟩) ?_ | refine Br.t ?_ | refine Br.f ?_)
                  exact ⟨DLe.refl _, trivial⟩
              · replace h := bif_f b39 h
                repeat (first | refine Ob.mk (by first | rfl | omega | assumption | exact ⟨rfl, rfl, (List.length_map _).symm⟩ | exact ⟨rfl, rfl, by rw [List.length_map]; omega⟩) ?_ | refine Br.t ?_ | refine Br.f ?_)
                refine WP_ret ?_
                obtain rfl := Option.some.inj h
                repeat (first | refine Ob.mk (by first | rfl | omega | assumption | exact ⟨rfl, rfl, (List.length_map _).symm⟩ | exact ⟨rfl, rfl, by rw [List.length_map]; omega⟩) ?_ | refine Br.t ?_ | refine Br.f ?_)
                exact ⟨DLe.refl _, trivial⟩
          refine WP_seq ?_
          refine vcc_sound _ _ _ tabOk (by exact rfl) ?_
          repeat (first | refine Ob.mk (by first | rfl | omega | assumption | exact ⟨rfl, rfl, (List.length_map _).symm⟩ | exact ⟨rfl, rfl, by rw [List.length_map]; omega⟩) ?_ | refine Br.t ?_ | refine Br.f ?_)
          refine Br.mk (fun b41 => ?_) (fun b41 => ?_)
          · replace h := bif_t b41 h
            repeat (first | refine Ob.mk (by first | rfl | omega | assumption | exact ⟨rfl, rfl, (List.length_map _).symm⟩ | exact ⟨rfl, rfl, by rw [List.length_map]; omega⟩) ?_ | refine Br.t ?_ | refine Br.f ?_)
            refine Br.mk (fun b42 => ?_) (fun b42 => ?_)
            · replace h := bif_t b42 h
              repeat (first | refine Ob.mk (by first | rfl | omega | assumption | exact ⟨rfl, rfl, (List.length_map _).symm⟩ | exact ⟨rfl, rfl, by rw [List.length_map]; omega⟩) ?_ | refine Br.t ?_ | refine Br.f ?_)
              refine Br.mk (fun b43 => ?_) (fun b43 => ?_)
              · replace h := bif_t b43 h
                repeat (first | refine Ob.mk (by first | rfl | omega | assumption | exact ⟨rfl, rfl, (List.length_map _).symm⟩ | exact ⟨rfl, rfl, by rw [List.length_map]; omega⟩) ?_ | refine Br.t ?_ | refine Br.f ?_)
                refine vcc_sound _ _ _ tabOk (by exact rfl) ?_
                repeat (first | refine Ob.mk (by first | rfl | omega | assumption | exact ⟨rfl, rfl, (List.length_map _).symm⟩ | exact ⟨rfl, rfl, by rw [List.length_map]; omega⟩) ?_ | refine Br.t ?_ | refine Br.f ?_)
                refine WP_seq ?_
                refine vcc_sound _ _ _ tabOk (by exact rfl) ?_
                repeat (first | refine Ob.mk (by first | rfl | omega | assumption | exact ⟨rfl, rfl, (List.length_map _).symm⟩ | exact ⟨rfl, rfl, by rw [List.length_map]; omega⟩) ?_ | refine Br.t ?_ | refine Br.f ?_)
                refine WP_ret ?_
                obtain rfl := Option.some.inj h
                repeat (first | refine Ob.mk (by first | rfl | omega | assumption | exact ⟨rfl, rfl, (List.length_map _).symm⟩ | exact ⟨rfl, rfl, by rw [List.length_map]; omega⟩) ?_ | refine Br.t ?_ | refine Br.f ?_)
                exact ⟨DLe.refl _, trivial⟩
              · replace h := bif_f b43 h
                repeat (first | refine Ob.mk (by first | rfl | omega | assumption | exact ⟨rfl, rfl, (List.length_map _).symm⟩ | exact ⟨rfl, rfl, by rw [List.length_map]; omega⟩) ?_ | refine Br.t ?_ | refine Br.f ?_)
                refine Br.mk (fun b44 => ?_) (fun b44 => ?_)
                · replace h := bif_t b44 h
                  repeat (first | refine Ob.mk (by first | rfl | omega | assumption | exact ⟨rfl, rfl, (List.length_map _).symm⟩ | exact ⟨rfl, rfl, by rw [List.length_map]; omega⟩) ?_ | refine Br.t ?_ | refine Br.f ?_)
                  refine Br.mk (fun b45 => ?_) (fun b45 => ?_)
                  · replace h := bif_t b45 h
                    repeat (first | refine Ob.mk (by first | rfl | omega | assumption | exact ⟨rfl, rfl, (List.length_map _).symm⟩ | exact ⟨rfl, rfl, by rw [List.length_map]; omega⟩) ?_ | refine Br.t ?_ | refine Br.f ?_)
                    refine vcc_sound _ _ _ tabOk (by exact rfl) ?_
                    repeat (first | refine Ob.mk (by first | rfl | omega | assumption | exact ⟨rfl, rfl, (List.length_map _).symm⟩ | exact ⟨rfl, rfl, by rw [List.length_map]; omega⟩) ?_ | refine Br.t ?_ | refine Br.f ?_)
                    refine Br.mk (fun b46 => ?_) (fun b46 => ?_)
                    · replace h := bif_t b46 h
                      refine WP_seq ?_
                      refine vcc_sound _ _ _ tabOk (by exact rfl) ?_
                      repeat (first | refine Ob.mk (by first | rfl | omega | assumption | exact ⟨rfl, rfl, (List.length_map _).symm⟩ | exact ⟨rfl, rfl, by rw [List.length_map]; omega⟩) ?_ | refine Br.t ?_ | refine Br.f ?_)
                      refine WP_ret ?_
                      obtain rfl := Option.some.inj h
                      repeat (first | refine Ob.mk (by first | rfl | omega | assumption | exact ⟨rfl, rfl, (List.length_map _).symm⟩ | exact ⟨rfl, rfl, by rw [List.length_map]; omega⟩) ?_ | refine Br.t ?_ | refine Br.f ?_)
                      exact ⟨DLe.refl _, trivial⟩
                    · replace h := bif_f b46 h
                      refine WP_skip ?_
                      repeat (first | refine Ob.mk (by first | rfl | omega | assumption | exact ⟨rfl, rfl, (List.length_map _).symm⟩ | exact ⟨rfl, rfl, by rw [List.length_map]; omega⟩) ?_ | refine Br.t ?_ | refine Br.f ?_)
                      exact ⟨⟨(), h⟩, Sub.ofL _ _ (Nat.zero_le _) ⟨rfl, rfl, rfl, rfl, rfl, rfl, trivial⟩ rfl rfl⟩
                  · replace h := bif_f b45 h
                    repeat (first | refine Ob.mk (by first | rfl | omega | assumption | exact ⟨rfl, rfl, (List.length_map _).symm⟩ | exact ⟨rfl, rfl, by rw [List.length_map]; omega⟩) ?_ | refine Br.t ?_ | refine Br.f ?_)
                    refine vcc_sound _ _ _ tabOk (by exact rfl) ?_
                    repeat (first | refine Ob.mk (by first | rfl | omega | assumption | exact ⟨rfl, rfl, (List.length_map _).symm⟩ | exact ⟨rfl, rfl, by rw [List.length_map]; omega⟩) ?_ | refine Br.t ?_ | refine Br.f ?_)
                    refine WP_skip ?_
                    repeat (first | refine Ob.mk (by first | rfl | omega | assumption | exact ⟨rfl, rfl, (List.length_map _).symm⟩ | exact ⟨rfl, rfl, by rw [List.length_map]; omega⟩) ?_ | refine Br.t ?_ | refine Br.f ?_)
                    exact ⟨⟨(), h⟩, Sub.ofL _ _ (Nat.zero_le _) ⟨rfl, rfl, rfl, rfl, rfl, rfl, trivial⟩ rfl rfl⟩
                · replace h := bif_f b44 h
                  repeat (first | refine Ob.mk (by first | rfl | omega | assumption | exact ⟨rfl, rfl, (List.length_map _).symm⟩ | exact ⟨rfl, rfl, by rw [List.length_map]; omega⟩) ?_ | refine Br.t ?_ | refine Br.f ?_)
                  refine vcc_sound _ _ _ tabOk (by exact rfl) ?_
                  repeat (first | refine Ob.mk (by first | rfl | omega | assumption | exact ⟨rfl, rfl, (List.length_map _).symm⟩ | exact ⟨rfl, rfl, by rw [List.length_map]; omega⟩) ?_ | refine Br.t ?_ | refine Br.f ?_)
                  refine WP_skip ?_
                  repeat (first | refine Ob.mk (by first | rfl | omega | assumption | exact ⟨rfl, rfl, (List.length_map _).symm⟩ | exact ⟨rfl, rfl, by rw [List.length_map]; omega⟩) ?_ | refine Br.t ?_ | refine Br.f ?_)
                  exact ⟨⟨(), h⟩, Sub.ofL _ _ (Nat.zero_le _) ⟨rfl, rfl, rfl, rfl, rfl, rfl, trivial⟩ rfl rfl⟩
            · replace h := bif_f b42 h
              repeat (first | refine Ob.mk (by first | rfl | omega | assumption | exact ⟨rfl, rfl, (List.length_map _).symm⟩ | exact ⟨rfl, rfl, by rw [List.length_map]; omega⟩) ?_ | refine Br.t ?_ | refine Br.f ?_)
              refine Br.mk (fun b47 => ?_) (fun b47 => ?_)
              · replace h := bif_t b47 h
                repeat (first | refine Ob.mk (by first | rfl | omega | assumption | exact ⟨rfl, rfl, (List.length_map _).symm⟩ | exact ⟨rfl, rfl, by rw [List.length_map]; omega⟩) ?_ | refine Br.t ?_ | refine Br.f ?_)
                refine Br.mk (fun b48 => ?_) (fun b48 => ?_)
                · replace h := bif_t b48 h
                  repeat (first | refine Ob.mk (by first | rfl | omega | assumption | exact ⟨rfl, rfl, (List.length_map _).symm⟩ | exact ⟨rfl, rfl, by rw [List.length_map]; omega⟩) ?_ | refine Br.t ?_ | refine Br.f ?_)
                  refine vcc_sound _ _ _ tabOk (by exact rfl) ?_
                  repeat (first | refine Ob.mk (by first | rfl | omega | assumption | exact ⟨rfl, rfl, (List.length_map _).symm⟩ | exact ⟨rfl, rfl, by rw [List.length_map]; omega⟩) ?_ | refine Br.t ?_ | refine Br.f ?_)
                  refine Br.mk (fun b49 => ?_) (fun b49 => ?_)
                  · replace h := bif_t b49 h
                    refine WP_seq ?_
                    refine vcc_sound _ _ _ tabOk (by exact rfl) ?_
                    repeat (first | refine Ob.mk (by first | rfl | omega | assumption | exact ⟨rfl, rfl, (List.length_map _).symm⟩ | exact ⟨rfl, rfl, by rw [List.length_map]; omega⟩) ?_ | refine Br.t ?_ | refine Br.f ?_)
                    refine WP_ret ?_
                    obtain rfl := Option.some.inj h
                    repeat (first | refine Ob.mk (by first | rfl | omega | assumption | exact ⟨rfl, rfl, (List.length_map _).symm⟩ | exact ⟨rfl, rfl, by rw [List.length_map]; omega⟩) ?_ | refine Br.t ?_ | refine Br.f ?_)
                    exact ⟨DLe.refl _, trivial⟩
                  · replace h := bif_f b49 h
                    refine WP_skip ?_
                    repeat (first | refine Ob.mk (by first | rfl | omega | assumption | exact ⟨rfl, rfl, (List.length_map _).symm⟩ | exact ⟨rfl, rfl, by rw [List.length_map]; omega⟩) ?_ | refine Br.t ?_ | refine Br.f ?_)
                    exact ⟨⟨(), h⟩, Sub.ofL _ _ (Nat.zero_le _) ⟨rfl, rfl, rfl, rfl, rfl, rfl, trivial⟩ rfl rfl⟩
                · replace h := bif_f b48 h
                  repeat (first | refine Ob.mk (by first | rfl | omega | assumption | exact ⟨rfl, rfl, (List.length_map _).symm⟩ | exact ⟨rfl, rfl, by rw [List.length_map]; omega⟩) ?_ | refine Br.t ?_ | refine Br.f ?_)
                  refine vcc_sound _ _ _ tabOk (by exact rfl) ?_
                  repeat (first | refine Ob.mk (by first | rfl | omega | assumption | exact ⟨rfl, rfl, (List.length_map _).symm⟩ | exact ⟨rfl, rfl, by rw [List.length_map]; omega⟩) ?_ | refine Br.t ?_ | refine Br.f ?_)
                  refine WP_skip ?_
                  repeat (first | refine Ob.mk (by first | rfl | omega | assumption | exact ⟨rfl, rfl, (List.length_map _).symm⟩ | exact ⟨rfl, rfl, by rw [List.length_map]; omega⟩) ?_ | refine Br.t ?_ | refine Br.f ?_)
                  exact ⟨⟨(), h⟩, Sub.ofL _ _ (Nat.zero_le _) ⟨rfl, rfl, rfl, rfl, rfl, rfl, trivial⟩ rfl rfl⟩
              · replace h := bif_f b47 h
                repeat (first | refine Ob.mk (by first | rfl | omega | assumption | exact ⟨rfl, rfl, (List.length_map _).symm⟩ | exact ⟨rfl, rfl, by rw [List.length_map]; omega⟩) ?_ | refine Br.t ?_ | refine Br.f ?_)
                refine vcc_sound _ _ _ tabOk (by exact rfl) ?_
                repeat (first | refine Ob.mk (by first | rfl | omega | assumption | exact ⟨rfl, rfl, (List.length_map _).symm⟩ | exact ⟨rfl, rfl, by rw [List.length_map]; omega⟩) ?_ | refine Br.t ?_ | refine Br.f ?_)
                refine WP_skip ?_
                repeat (first | refine Ob.mk (by first | rfl | omega | assumption | exact ⟨rfl, rfl, (List.length_map _).symm⟩ | exact ⟨rfl, rfl, by rw [List.length_map]; omega⟩) ?_ | refine Br.t ?_ | refine Br.f ?_)
                exact ⟨⟨(), h⟩, Sub.ofL _ _ (Nat.zero_le _) ⟨rfl, rfl, rfl, rfl, rfl, rfl, trivial⟩ rfl rfl⟩
          · replace h := bif_f b41 h
            repeat (first | refine Ob.mk (by first | rfl | omega | assumption | exact ⟨rfl, rfl, (List.length_map _).symm⟩ | exact ⟨rfl, rfl, by rw [List.length_map]; omega⟩) ?_ | refine Br.t ?_ | refine Br.f ?_)
            refine Br.mk (fun b50 => ?_) (fun b50 => ?_)
            · replace h := bif_t b50 h
              repeat (first | refine Ob.mk (by first | rfl | omega | assumption | exact ⟨rfl, rfl, (List.length_map _).symm⟩ | exact ⟨rfl, rfl, by rw [List.length_map]; omega⟩) ?_ | refine Br.t ?_ | refine Br.f ?_)
              refine Br.mk (fun b51 => ?_) (fun b51 => ?_)
              · replace h := bif_t b51 h
                repeat (first | refine Ob.mk (by first | rfl | omega | assumption | exact ⟨rfl, rfl, (List.length_map _).symm⟩ | exact ⟨rfl, rfl, by rw [List.length_map]; omega⟩) ?_ | refine Br.t ?_ | refine Br.f ?_)
                refine vcc_sound _ _ _ tabOk (by exact rfl) ?_
                repeat (first | refine Ob.mk (by first | rfl | omega | assumption | exact ⟨rfl, rfl, (List.length_map _).symm⟩ | exact ⟨rfl, rfl, by rw [List.length_map]; omega⟩) ?_ | refine Br.t ?_ | refine Br.f ?_)
                refine Br.mk (fun b52 => ?_) (fun b52 => ?_)
                · replace h := bif_t b52 h
                  refine WP_seq ?_
                  refine vcc_sound _ _ _ tabOk (by exact rfl) ?_
                  repeat (first | refine Ob.mk (by first | rfl | omega | assumption | exact ⟨rfl, rfl, (List.length_map _).symm⟩ | exact ⟨rfl, rfl, by rw [List.length_map]; omega⟩) ?_ | refine Br.t ?_ | refine Br.f ?_)
                  refine WP_ret ?_
                  obtain rfl := Option.some.inj h
                  repeat (first | refine Ob.mk (by first | rfl | omega | assumption | exact ⟨rfl, rfl, (List.length_map _).symm⟩ | exact ⟨rfl, rfl, by rw [List.length_map]; omega⟩) ?_ | refine Br.t ?_ | refine Br.f ?_)
                  exact ⟨DLe.refl _, trivial⟩
                · replace h := bif_f b52 h
                  refine WP_skip ?_
                  repeat (first | refine Ob.mk (by first | rfl | omega | assumption | exact ⟨rfl, rfl, (List.length_map _).symm⟩ | exact ⟨rfl, rfl, by rw [List.length_map]; omega⟩) ?_ | refine Br.t ?_ | refine Br.f ?_)
                  exact ⟨⟨(), h⟩, Sub.ofL _ _ (Nat.zero_le _) ⟨rfl, rfl, rfl, rfl, rfl, rfl, trivial⟩ rfl rfl⟩
              · replace h := bif_f b51 h
                repeat (first | refine Ob.mk (by first | rfl | omega | assumption | exact ⟨rfl, rfl, (List.length_map _).symm⟩ | exact ⟨rfl, rfl, by rw [List.length_map]; omega⟩) ?_ | refine Br.t ?_ | refine Br.f ?_)
                refine vcc_sound _ _ _ tabOk (by exact rfl) ?_
                repeat (first | refine Ob.mk (by first | rfl | omega | assumption | exact ⟨rfl, rfl, (List.length_map _).symm⟩ | exact ⟨rfl, rfl, by rw [List.length_map]; omega⟩) ?_ | refine Br.t ?_ | refine Br.f ?_)
                refine WP_skip ?_
                repeat (first | refine Ob.mk (by first | rfl | omega | assumption | exact ⟨rfl, rfl, (List.length_map _).symm⟩ | exact ⟨rfl, rfl, by rw [List.length_map]; omega⟩) ?_ | refine Br.t ?_ | refine Br.f ?_)
                exact ⟨⟨(), h⟩, Sub.ofL _ _ (Nat.zero_le _) ⟨rfl, rfl, rfl, rfl, rfl, rfl, trivial⟩ rfl rfl⟩
            · replace h := bif_f b50 h
              repeat (first | refine Ob.mk (by first | rfl | omega | assumption | exact ⟨rfl, rfl, (List.length_map _).symm⟩ | exact ⟨rfl, rfl, by rw [List.length_map]; omega⟩) ?_ | refine Br.t ?_ | refine Br.f ?_)
              refine vcc_sound _ _ _ tabOk (by exact rfl) ?_
              repeat (first | refine Ob.mk (by first | rfl | omega | assumption | exact ⟨rfl, rfl, (List.length_map _).symm⟩ | exact ⟨rfl, rfl, by rw [List.length_map]; omega⟩) ?_ | refine Br.t ?_ | refine Br.f ?_)
              refine WP_skip ?_
              repeat (first | refine Ob.mk (by first | rfl | omega | assumption | exact ⟨rfl, rfl, (List.length_map _).symm⟩ | exact ⟨rfl, rfl, by rw [List.length_map]; omega⟩) ?_ | refine Br.t ?_ | refine Br.f ?_)
              exact ⟨⟨(), h⟩, Sub.ofL _ _ (Nat.zero_le _) ⟨rfl, rfl, rfl, rfl, rfl, rfl, trivial⟩ rfl rfl⟩

end Go.Proofs.Nw.K
end
