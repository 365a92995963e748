/- B5: slices.SortFunc over a row of one's own of pairs, by their names. -/
import Derived.Test.YtjfpnnmagnljnaaNwB4
import Derived.Test.YtjfpnnmagnljnaaNwC11
import Derived.Shelf.SlSortCmp.WholeK
import Derived.Sort.Walk0
set_option linter.unusedVariables false
set_option linter.unusedSimpArgs false
namespace Go.Proofs.Nw.K
open Go Go.Proofs Go.Shelf Go.Lib Go.Sort Go.RowKit

instance : Inhabited Pair := ⟨zPair⟩
def encV (p : Pair) : List Value := [.string p.name, .string p.value]
def cfP (p q : Pair) : Int := strCmp p.name q.name
def sortP (xs : List Pair) : List Pair := (pdq (ltOf cfP) xs.toArray 0 xs.toArray.size (Lib.bitLen xs.toArray.size) true true).toList

theorem ltP (p q : Pair) : ltOf cfP p q = decide (p.name.toList < q.name.toList) := by
  unfold ltOf cfP strCmp
  rw [bytesLess_eq]
  by_cases h : p.name.toList < q.name.toList
  · simp [h]
  · simp only [h, decide_false, Bool.false_or]
    simp only [Bool.false_eq_true, if_false]
    split <;> simp

theorem swoP : SWO (ltOf cfP) where
  irrefl x := by rw [ltP]; simp [List.lt_irrefl]
  trans x y z h1 h2 := by
    rw [ltP] at *
    simp only [decide_eq_true_eq] at *
    exact List.lt_trans h1 h2
  ntrans x y z h1 h2 := by
    rw [ltP] at *
    simp only [decide_eq_false_iff_not, List.not_lt] at *
    exact List.le_trans h2 h1

theorem sortP_facts (xs : List Pair) : (sortP xs).Perm xs ∧ (sortP xs).Pairwise fun a b => ¬ b.name.toList < a.name.toList := by
  obtain ⟨⟨h1, _, h2⟩, h3⟩ := pdq_sorts (ltOf cfP) swoP xs.toArray 0 xs.toArray.size (Lib.bitLen xs.toArray.size) true true (Nat.zero_le _) (Nat.le_refl _) (Or.inl rfl)
  constructor
  · have e1 : ∀ (d : Array Pair) (n : Nat), d.size = n → (d.extract 0 n).toList = d.toList := fun d n h => by subst h; simp
    rw [e1 _ _ h1, e1 _ _ rfl] at h2
    simpa [sortP] using h2
  · rw [List.pairwise_iff_getElem]
    intro i j hi hj hij
    have hsz : (sortP xs).length = xs.toArray.size := by simpa [sortP] using h1
    have := h3 i j (Nat.zero_le _) hij (by omega)
    rw [ltP] at this
    have g : ∀ k (hk : k < (sortP xs).length), (pdq (ltOf cfP) xs.toArray 0 xs.toArray.size (Lib.bitLen xs.toArray.size) true true)[k]! = (sortP xs)[k] := fun k hk => by
      rw [getElem!_pos _ k (by rw [h1]; omega)]
      simp [sortP]
    rw [g i hi, g j hj] at this
    simpa using this

theorem sortP_length (xs : List Pair) : (sortP xs).length = xs.length := (sortP_facts xs).1.length_eq
theorem sortP_nil : sortP [] = [] := List.eq_nil_of_length_eq_zero (sortP_length [])

theorem cmpLays74 (blk off size : Nat) (w : World) : CmpLays Try.prog 74 #[] encV 2 cfP blk off size w :=
  fun _ _ _ _ x y => closure74 x.name x.value y.name y.value _

theorem flat_get (ys : List Pair) (t : Nat) (h : t < ys.length * 2) : (flatK encV 2 ys.toArray)[t]! = (ys.flatMap encV).getD t (.bool false) := by
  rw [get_flatK _ _ _ _ (by simpa using h)]
  have h2 : t / 2 < ys.length := by omega
  rw [getElem!_pos _ (t / 2) (by simpa using h2)]
  have key : ∀ (l : List Pair) (i j : Nat) (hi : i < l.length), j < 2 → (l.flatMap encV).getD (i * 2 + j) (.bool false) = (encV l[i])[j]! := by
    intro l
    induction l with
    | nil => intro i j hi _; simp at hi
    | cons p r ih =>
      intro i j hi hj
      cases i with
      | zero =>
        have : j = 0 ∨ j = 1 := by omega
        rcases this with rfl | rfl <;> rfl
      | succ i =>
        have := ih i j (by simpa using hi) hj
        rw [List.flatMap_cons, List.getElem_cons_succ, ← this]
        simp only [List.getD_eq_getElem?_getD]
        rw [List.getElem?_append_right (by simp [encV]; omega)]
        congr 2
        simp [encV]; omega
  have := key ys (t / 2) (t % 2) h2 (Nat.mod_lt _ (by decide))
  rw [show t / 2 * 2 + t % 2 = t by omega] at this
  rw [this]
  simp

theorem flat_length (ys : List Pair) : (ys.flatMap encV).length = ys.length * 2 := by
  induction ys with
  | nil => rfl
  | cons p r ih => simp [encV, ih]; omega

theorem sortFunc_some {st : List AO} {s k : Nat} {xs : List Pair} (hst : st[s]? = some (.row k 66 2 (xs.map encPair))) (hn : xs.length ≤ 4194304)
    (hnone : ∀ (p : Option Addr) (cap : Nat) (fv : Value) (w : World), Calls Try.prog 73 #[.slice p 0 cap, fv] w fun e w' => e = .returned (.tuple #[]) ∧ w' = w) :
    Eff Try.prog 73 [.h s k 0 xs.length, .v (.one (.sc (.func (.func 74) #[] #[])))] st [] (st.set s (.row k 66 2 ((sortP xs).map encPair))) := by
  intro w0 σ0 σ gh w vs hb hl hvs
  match vs, hl with
  | [v, fv], _ =>
  have h1 := hvs 0 v _ rfl rfl
  have h2 := RepA_sc (hvs 1 fv _ rfl rfl)
  subst h2
  obtain ⟨g, hg, hR, A, c, hv⟩ := h_val hb hst h1
  have hlen : (xs.map encPair).length = xs.length := by simp
  have hvg : v = g := by
    obtain ⟨h0, ⟨a1, a2, a3⟩ | ⟨b', m, c2, a1, a2, ⟨a3, a4, _⟩ | a3⟩⟩ := hR
    · exact a3
    · omega
    · obtain ⟨A', c', hgv, hc'⟩ := row_val hb hst hg
      rw [a1] at hgv
      injection hgv with e1 e2 e3
      rw [a3, a1, e2, hlen]; simp
  subst hvg
  obtain ⟨vals, hown, hsz, hval, huns, hone⟩ := hb.obj s _ _ hst hg
  rw [hlen] at hown
  rcases hown.2 with ⟨e1, e2⟩ | ⟨blk, cap, cur, e1, e2, e3, e4, e5, e6, e7⟩
  · have : xs = [] := List.eq_nil_of_length_eq_zero e2
    subst this
    rw [e1]
    refine (hnone none 0 _ w).mono fun e w' ⟨h3, h4⟩ => ?_
    subst h4
    refine ⟨_, h3, σ, gh, ?_, [], rfl, by simp [RepVs]⟩
    rw [sortP_nil, set_self hst]
    exact .refl hb
  · have hvals : vals = xs.flatMap encV := by
      have hl1 : vals.length = xs.length * 2 := hown.1
      apply List.ext_getElem?
      intro t
      by_cases ht : t < xs.length * 2
      · have hi : t / 2 < xs.length := by omega
        have hx : (xs.map encPair)[t / 2]? = some (encPair xs[t / 2]) := by simp [hi]
        have hj : t % 2 = 0 ∨ t % 2 = 1 := by omega
        have hfl : (xs.flatMap encV)[t]? = some (if t % 2 = 0 then .string xs[t / 2].name else .string xs[t / 2].value) := by
          have h3 := flat_get xs t ht
          rw [get_flatK _ _ _ _ (by simpa using ht), getElem!_pos _ (t / 2) (by simpa using hi)] at h3
          rw [List.getD_eq_getElem?_getD, List.getElem?_eq_getElem (by rw [flat_length]; exact ht)] at h3
          rw [List.getElem?_eq_getElem (by rw [flat_length]; exact ht)]
          simp only [Option.getD_some] at h3
          rw [← h3]
          rcases hj with hj | hj <;> simp [hj, encV]
        rw [hfl]
        rcases hj with hj | hj
        · obtain ⟨u, h3, h4⟩ := hval (t / 2) 0 _ _ hx rfl
          have h4 := RepA_sc (gh := gh) (st := st) (show RepA σ gh st u (.d (dstr xs[t / 2].name)) from h4)
          rw [show t / 2 * 2 + 0 = t by omega] at h3
          rw [h3, h4, if_pos hj]
        · obtain ⟨u, h3, h4⟩ := hval (t / 2) 1 _ _ hx rfl
          have h4 := RepA_sc (gh := gh) (st := st) (show RepA σ gh st u (.d (dstr xs[t / 2].value)) from h4)
          rw [show t / 2 * 2 + 1 = t by omega] at h3
          rw [h3, h4, if_neg (by omega)]
      · rw [List.getElem?_eq_none (by omega), List.getElem?_eq_none (by rw [flat_length]; omega)]
    subst hvals
    subst e1
    have hblk : blk < w.heap.size := (Array.getElem?_eq_some_iff.1 e3).1
    have hH : HoldsK encV 2 w blk 0 xs.toArray := by
      intro j hj
      have hj' : j < xs.length * 2 := by simpa using hj
      have h3 := hown.cellAt j hj'
      have h4 := hown.frozenAt j
      rw [Nat.zero_add]
      refine ⟨?_, h4⟩
      rw [h3, List.getElem?_eq_getElem (by rw [flat_length]; exact hj')]
      have h5 := flat_get xs j hj'
      rw [List.getD_eq_getElem?_getD, List.getElem?_eq_getElem (by rw [flat_length]; exact hj')] at h5
      simp only [Option.getD_some] at h5
      rw [← h5]; rfl
    have eg : ∀ args w, (callFunc 74 args).run Try.prog w = .ok (.enter 74 args) w := enters_of Try.func74 (by kernel_rfl) rfl
    have hcon := AnyQ.slices_SortFunc_eq Try.sortProp 2 Try.isAgg66 Try.sizeOf66 encV (fun _ => rfl) (fun x v hv => by simp [encV] at hv; rcases hv with rfl | rfl <;> rfl) cfP swoP 74 #[] blk 0 cap xs.toArray w eg (cmpLays74 blk 0 xs.toArray.size w) hH hblk (by simp; omega)
    change Calls Try.prog 73 _ _ _ at hcon
    refine hcon.mono fun e w' ⟨h3, m, os, h4⟩ => ?_
    have hps := sortP_length xs
    have hd : pdq (ltOf cfP) xs.toArray 0 xs.toArray.size (Lib.bitLen xs.toArray.size) true true = (sortP xs).toArray := by simp [sortP]
    rw [hd] at h4
    generalize hF : flatK encV 2 (sortP xs).toArray = F at h4
    have hFs : F.size = xs.length * 2 := by rw [← hF]; simp [hps]
    have hw' : w' = grow (mapBlock (Sort.ahead w m) blk (putCells id 0 F)) os := by rw [h4, ← hF]; rfl
    have hmb : ∀ j, (mapBlock (Sort.ahead w m) blk (putCells id 0 F)).heap[j]? = if blk = j then (w.heap[j]?).map (onCells (putCells id 0 F)) else w.heap[j]? := fun j => by
      simp only [mapBlock, Sort.ahead, Array.getElem?_modify]
    have hms : (mapBlock (Sort.ahead w m) blk (putCells id 0 F)).heap.size = w.heap.size := by simp [mapBlock, Sort.ahead]
    have hgrown : w.grownBy w' (some blk) := by
      rw [hw']
      refine ⟨rfl, rfl, rfl, ?_, fun j hj hne => ?_⟩
      · rw [size_grow, hms]; omega
      · rw [heap_grow_old _ _ (by rw [hms]; exact hj), hmb, if_neg (fun h => hne (by rw [h]))]
    have hcell : w'.heap[blk]? = some (.cells (putCells id 0 F cur) 66 (0, 0)) := by
      rw [hw', heap_grow_old _ _ (by rw [hms]; exact hblk), hmb, if_pos rfl, e3]; rfl
    have hpc : (putCells id 0 F cur).size = cur.size := by simp [putCells]
    have hFl : (putCells id 0 F cur).toList.take (xs.length * 2) = (sortP xs).flatMap encV := by
      have h5 : xs.length * 2 ≤ cur.size := by rw [e6]; omega
      apply List.ext_getElem?
      intro t
      by_cases ht : t < xs.length * 2
      · rw [List.getElem?_take_of_lt ht]
        have h6 := flat_get (sortP xs) t (by rw [hps]; exact ht)
        rw [List.getD_eq_getElem?_getD, List.getElem?_eq_getElem (by rw [flat_length, hps]; exact ht)] at h6
        simp only [Option.getD_some] at h6
        rw [List.getElem?_eq_getElem (show t < ((sortP xs).flatMap encV).length by rw [flat_length, hps]; exact ht), ← h6, hF]
        have h7 : t < cur.size := by omega
        simp only [putCells, Array.getElem?_toList, Array.getElem?_mapIdx, Array.getElem?_eq_getElem h7, Option.map_some]
        rw [if_pos ⟨by omega, by omega⟩]; rfl
      · rw [List.getElem?_eq_none (by simp; omega), List.getElem?_eq_none (by rw [flat_length, hps]; omega)]
    have keep : ∀ v a, RepA σ gh st v a → RepA σ gh (st.set s (.row k 66 2 ((sortP xs).map encPair))) v a := fun v a h' => h'.set hst _ (fun k' e' sz' xs' heq => by cases heq; exact ⟨66, xs.map encPair, rfl, by simp [hps]⟩)
    have := hb.turn (w' := w') hst hg (by simp) (by simpa [blkOf] using hgrown) (.slice (some ⟨blk, 0, none⟩) xs.length cap) (.row k 66 2 ((sortP xs).map encPair)) (fun b hb' => .inl hb')
      ⟨(sortP xs).flatMap encV, ⟨by rw [flat_length]; simp, .inr ⟨blk, cap, _, by simp [hps], e2, hcell, by simpa [hps] using e4, e5, by rw [hpc]; exact e6, by rw [List.length_map, hps]; exact hFl⟩⟩,
        fun i x hx => by
          simp only [List.getElem?_map, Option.map_eq_some_iff] at hx
          obtain ⟨p, _, rfl⟩ := hx
          rfl,
        fun i j x d hx hd => by
          simp only [List.getElem?_map, Option.map_eq_some_iff] at hx
          obtain ⟨p, hp, rfl⟩ := hx
          have hi : i < (sortP xs).length := (List.getElem?_eq_some_iff.1 hp).1
          have hj : j = 0 ∨ j = 1 := by
            have := (List.getElem?_eq_some_iff.1 hd).1
            simp [encPair] at this; omega
          have h6 := flat_get (sortP xs) (i * 2 + j) (by omega)
          rw [get_flatK _ _ _ _ (by simp; omega), show (i * 2 + j) / 2 = i by omega, show (i * 2 + j) % 2 = j by omega, getElem!_pos _ i (by simpa using hi)] at h6
          rw [List.getD_eq_getElem?_getD, List.getElem?_eq_getElem (by rw [flat_length]; omega)] at h6
          simp only [Option.getD_some] at h6
          refine ⟨_, List.getElem?_eq_getElem (by rw [flat_length]; omega), ?_⟩
          rw [← h6]
          have hpe : (sortP xs)[i] = p := by rw [List.getElem?_eq_getElem hi] at hp; exact Option.some.inj hp
          rcases hj with rfl | rfl
          · have : d = dstr p.name := by simpa [encPair] using hd.symm
            subst this
            simp only [List.getElem_toArray, hpe]
            exact Rep.sc rfl
          · have : d = dstr p.value := by simpa [encPair] using hd.symm
            subst this
            simp only [List.getElem_toArray, hpe]
            exact Rep.sc rfl,
        huns, fun v hv => by
          obtain ⟨p, _, hp⟩ := List.mem_flatMap.1 hv
          simp only [encV, List.mem_cons, List.not_mem_nil, or_false] at hp
          rcases hp with rfl | rfl <;> rfl⟩
      (by rw [set_self hg]; exact keep)
    rw [set_self hg] at this
    exact ⟨_, h3, σ, gh, this, [], rfl, by simp [RepVs]⟩
end Go.Proofs.Nw.K
