/- K19: what a row hands in, read as data. -/
import Derived.Test.YtjfpnnmagnljnaaNwK18
import Derived.ChangeArms
import Derived.WideShapes
open Go Go.RowKit
set_option linter.unusedVariables false
set_option linter.unusedSimpArgs false
namespace Go.Proofs.Nw.K

def sigOf (w : World) : Sig where
  cell b o := (w.cell? ⟨b, o, none⟩).filter (·.oneCell')
  obj r := match w.heap[r]? with | some (.map es c) => some (.map es c) | _ => none

theorem sigOf_sealed (w : World) : Sealed (sigOf w) w where
  cell b o v h := by
    simp only [sigOf, Option.filter_eq_some_iff] at h
    exact h
  obj r o h := by
    simp only [sigOf] at h
    split at h
    · rename_i es c he; cases h; exact he
    · cases h

theorem sigOf_cell {w : World} {b o : Nat} {v : Value} (h : w.cell? ⟨b, o, none⟩ = some v) (h1 : v.oneCell' = true) : (sigOf w).cell b o = some v := by
  simp [sigOf, h, h1]

mutual
def bulk {H : Type} : DataW H → Nat
  | .lit (.string bytes) => bytes.length + 1
  | .lit _ => 1
  | .nil => 1
  | .ptr d => bulk d + 1
  | .slice elems spare => bulkAll elems + bulkAll spare + 1
  | .agg parts => bulkAll parts + 1
  | .iface _ d => bulk d + 1
  | .map entries => bulkEntries entries + 1
  | .held _ => 1
def bulkAll {H : Type} : List (DataW H) → Nat
  | [] => 0
  | d :: r => bulk d + bulkAll r
def bulkEntries {H : Type} : List (Lit × DataW H) → Nat
  | [] => 0
  | x :: r => bulkEntry x + bulkEntries r
def bulkEntry {H : Type} : Lit × DataW H → Nat
  | (.string bytes, d) => bytes.length + bulk d + 1
  | (_, d) => bulk d + 1
end

/-- what lies in cells that read as a type's: a datum, with its weight and what is known of it -/
structure Opens (P : Program) (t : TypeId) {α : Type} (enc : α → List D) (wt : α → Nat) (ok : α → Prop) : Prop where
  of : ∀ {H : Type} {e : TypeId × Value → H} {w : World} {base : Nat} {sp : Nat → Bool} {fuel : Nat} {cs : List Value} {x : DataW H × List MemPlace},
    DataW.trod e P w base sp true fuel t cs = some x → ∃ a, RepL (sigOf w) cs (enc a) ∧ (∀ c ∈ cs, c.oneCell' = true) ∧ wt a ≤ bulk x.1 ∧ ok a

theorem RepL.single {σ : Sig} {v : Value} {d : D} (h : Rep σ v d) : RepL σ [v] [d] :=
  ⟨rfl, fun i v' d' h1 h2 => by
    cases i with
    | zero => simp at h1 h2; subst h1 h2; exact h
    | succ i => simp at h1⟩

theorem RepL.append {σ : Sig} {vs vs' : List Value} {ds ds' : List D} (h : RepL σ vs ds) (k : RepL σ vs' ds') : RepL σ (vs ++ vs') (ds ++ ds') := by
  refine ⟨by simp [h.1, k.1], fun i v d h1 h2 => ?_⟩
  by_cases hi : i < vs.length
  · rw [List.getElem?_append_left hi] at h1
    rw [List.getElem?_append_left (by rw [← h.1]; exact hi)] at h2
    exact h.2 i v d h1 h2
  · rw [List.getElem?_append_right (by omega)] at h1
    rw [List.getElem?_append_right (by rw [← h.1]; omega), ← h.1] at h2
    exact k.2 _ v d h1 h2

variable {P : Program} {t : TypeId}

theorem opens_bool (ht : P.underlying t = some .bool) : Opens P t (fun b : Bool => [.sc (.bool b)]) (fun _ => 1) (fun _ => True) := by
  refine ⟨?_⟩
  intro H e w base sp fuel cs x h
  obtain ⟨b, rfl, rfl⟩ := DataW.trod_bool ht h
  exact ⟨b, .single (.sc rfl), by simp [Value.oneCell'], by simp [bulk], trivial⟩

theorem opens_int {k : IntKind} (ht : P.underlying t = some (.int k)) : Opens P t (fun n : Int => [.sc (.int k n)]) (fun _ => 1) (fun n => (Lit.int k n).wf = true) := by
  refine ⟨?_⟩
  intro H e w base sp fuel cs x h
  obtain ⟨n, rfl, rfl, hw⟩ := DataW.trod_int ht h
  exact ⟨n, .single (.sc rfl), by simp [Value.oneCell'], by simp [bulk], hw⟩

theorem opens_string (ht : P.underlying t = some .string) : Opens P t (fun s : ByteArray => [.sc (.string s)]) (fun s => s.size + 1) (fun s => s.size ≤ maxLen) := by
  refine ⟨?_⟩
  intro H e w base sp fuel cs x h
  obtain ⟨s, rfl, rfl, hw⟩ := DataW.trod_string ht h
  refine ⟨s, .single (.sc rfl), by simp [Value.oneCell'], ?_, hw⟩
  simp only [bulk, Array.length_toList, ByteArray.size]; exact Nat.le_refl _

theorem bulkAll_sum {H : Type} : ∀ (ds : List (DataW H)), bulkAll ds = (ds.map bulk).sum
  | [] => by simp [bulkAll]
  | d :: r => by simp [bulkAll, bulkAll_sum r]

universe u
/-- for each place one, all together -/
theorem choose_list {α : Type u} {p : Nat → α → Prop} : ∀ (n : Nat), (∀ i, i < n → ∃ a, p i a) → ∃ xs : List α, xs.length = n ∧ ∀ (i : Nat) a, xs[i]? = some a → p i a
  | 0, _ => ⟨[], rfl, fun i a h => by simp at h⟩
  | n + 1, h => by
    obtain ⟨xs, h1, h2⟩ := choose_list n fun i hi => h i (by omega)
    obtain ⟨a, ha⟩ := h n (by omega)
    refine ⟨xs ++ [a], by simp [h1], fun i b hb => ?_⟩
    by_cases hi : i < xs.length
    · rw [List.getElem?_append_left hi] at hb; exact h2 i b hb
    · rw [List.getElem?_append_right (by omega)] at hb
      have : i = n := by
        have := (List.getElem?_eq_some_iff.1 hb).1
        simp at this; omega
      subst this
      simp [h1] at hb; subst hb; exact ha

theorem sum_le_sum : ∀ {xs ys : List Nat}, xs.length = ys.length → (∀ (i : Nat) a b, xs[i]? = some a → ys[i]? = some b → a ≤ b) → xs.sum ≤ ys.sum
  | [], [], _, _ => by simp
  | x :: xs, y :: ys, hl, h => by
    have h0 := h 0 x y rfl rfl
    have ih := sum_le_sum (xs := xs) (ys := ys) (by simpa using hl) fun i a b ha hb => h (i + 1) a b (by simpa using ha) (by simpa using hb)
    simp; omega
  | [], _ :: _, hl, _ => by simp at hl
  | _ :: _, [], hl, _ => by simp at hl

theorem add_none (b o i : Nat) : (⟨b, o, none⟩ : Addr).add i = ⟨b, o + i, none⟩ := by
  unfold Addr.add
  split
  · rename_i h; simp_all
  · rfl

theorem opens_rows {e : TypeId} {sz : Nat} {α : Type} {enc : α → List D} {wt : α → Nat} {ok : α → Prop} (ht : P.underlying t = some (.slice e)) (hsz : P.cellsOf e = sz) (hpos : 0 < sz) (he : Opens P e enc wt ok) :
    Opens P t (fun xs : List α => [.list sz (xs.map enc)]) (fun xs => (xs.map wt).sum + 1) (fun xs => xs.length ≤ maxLen ∧ ∀ x ∈ xs, ok x) := by
  refine ⟨?_⟩
  intro H en w base sp fuel cs x h
  rcases DataW.trod_slice ht h with ⟨rfl, rfl⟩ | ⟨a, len, cap, elems, rest, n, _, rfl, rfl, hb, hl, hm, hlen, hel, hsp, hns⟩
  · exact ⟨[], .single (.nil (by simp [maxLen])), by simp [Value.oneCell'], by simp [bulk], by simp [maxLen], by simp⟩
  obtain ⟨xs, hx1, hx2⟩ := choose_list (p := fun i (c : α × List Value) => ∃ y, w.cells? base (a.add (i * P.cellsOf e)) (P.cellsOf e) = some c.2 ∧ elems[i]? = some y ∧
      RepL (sigOf w) c.2 (enc c.1) ∧ (∀ v ∈ c.2, v.oneCell' = true) ∧ wt c.1 ≤ bulk y.1 ∧ ok c.1) len (fun i hi => by
    have := hel i hi
    have hlt : i < elems.length := by omega
    rw [List.getElem?_eq_getElem hlt] at this
    simp only [Option.bind_eq_some_iff] at this
    obtain ⟨cs, h1, h2⟩ := this
    obtain ⟨a, h3, h4, h5, h6⟩ := he.of h2
    exact ⟨(a, cs), _, h1, List.getElem?_eq_getElem hlt, h3, h4, h5, h6⟩)
  refine ⟨xs.map (·.1), .single ?_, by simp [Value.oneCell'], ?_, by simp [hx1]; omega, ?_⟩
  · by_cases h0 : len = 0
    · subst h0
      have : xs = [] := by simpa using hx1
      subst this
      exact .nil hm
    subst hsz
    have hget : ∀ (i : Nat), i < len → ∃ c, xs[i]? = some c := fun i hi => ⟨xs[i], List.getElem?_eq_getElem (by omega)⟩
    have hspot : a.spot = none := by
      obtain ⟨c, hc⟩ := hget 0 (by omega)
      obtain ⟨y, h1, _⟩ := hx2 0 c hc
      obtain ⟨_, h3, h4⟩ := World.cells?_some h1
      have := h4 0 (by omega)
      have hs : 0 < c.2.length := by omega
      rw [List.getElem?_eq_getElem hs] at this
      simp only [World.cell?] at this
      split at this
      · split at this
        · cases this
        · rename_i hne
          cases hsp : a.spot with
          | none => rfl
          | some z => simp [Addr.add, hsp] at hne
      · cases this
    · obtain ⟨ab, ao, asp⟩ := a
      simp only at hspot; subst hspot
      refine .list (fun i j => ((xs[i]?.bind fun c => c.2[j]?).getD undef)) (by simp [hx1]) (by omega) hl hm ?_ ?_ ?_
      · intro i d hd
        simp only [List.getElem?_map, Option.map_eq_some_iff] at hd
        obtain ⟨a, ⟨c, hc, rfl⟩, rfl⟩ := hd
        obtain ⟨y, h1, _, h3, _⟩ := hx2 i c hc
        obtain ⟨_, h5, _⟩ := World.cells?_some h1
        rw [← h3.1, h5]
      · intro i j hi hj
        obtain ⟨c, hc⟩ := hget i hi
        obtain ⟨y, h1, _, h3, h4, _⟩ := hx2 i c hc
        obtain ⟨_, h5, h6⟩ := World.cells?_some h1
        have := h6 j hj
        have hlt : j < c.2.length := by omega
        rw [List.getElem?_eq_getElem hlt] at this
        simp only [hc, Option.bind_some, List.getElem?_eq_getElem hlt, Option.getD_some]
        exact sigOf_cell (by simpa only [add_none] using this) (h4 _ (List.getElem_mem _))
      · intro i j d1 d hd1 hd
        simp only [List.getElem?_map, Option.map_eq_some_iff] at hd1
        obtain ⟨a, ⟨c, hc, rfl⟩, rfl⟩ := hd1
        obtain ⟨y, h1, _, h3, _⟩ := hx2 i c hc
        have hlt : j < c.2.length := by rw [h3.1]; exact (List.getElem?_eq_some_iff.1 hd).1
        simp only [hc, Option.bind_some, List.getElem?_eq_getElem hlt, Option.getD_some]
        exact h3.2 j _ d (List.getElem?_eq_getElem hlt) hd
  · simp only [bulk]
    have : ((xs.map (·.1)).map wt).sum ≤ ((elems.map (·.1)).map bulk).sum := by
      refine sum_le_sum (by simp [hx1, hlen]) fun i a b ha hb => ?_
      simp only [List.getElem?_map, Option.map_eq_some_iff] at ha hb
      obtain ⟨_, ⟨c, hc, rfl⟩, rfl⟩ := ha
      obtain ⟨_, ⟨y, hy, rfl⟩, rfl⟩ := hb
      obtain ⟨y', _, h2, _, _, h5, _⟩ := hx2 i c hc
      rw [hy] at h2; cases h2
      exact h5
    rw [bulkAll_sum, bulkAll_sum]; omega
  · intro a ha
    simp only [List.mem_map] at ha
    obtain ⟨c, hc, rfl⟩ := ha
    obtain ⟨i, hi⟩ := List.getElem?_of_mem hc
    obtain ⟨_, _, _, _, _, _, h6⟩ := hx2 i c hi
    exact h6

theorem opens_slice {e : TypeId} {sz : Nat} {α : Type} {enc : α → List D} {wt : α → Nat} {ok : α → Prop} (z : α) (ht : P.underlying t = some (.slice e)) (hsz : P.cellsOf e = sz) (hpos : 0 < sz) (he : Opens P e enc wt ok) :
    Opens P t (fun xs : List α => [.tl α sz enc z xs]) (fun xs => (xs.map wt).sum + 1) (fun xs => xs.length ≤ maxLen ∧ ∀ x ∈ xs, ok x) := by
  refine ⟨?_⟩
  intro H en w base sp fuel cs x h
  obtain ⟨xs, h1, h2, h3, h4⟩ := (opens_rows ht hsz hpos he).of h
  obtain ⟨hl, hr⟩ := h1
  refine ⟨xs, ⟨hl, fun i v d hv hd => ?_⟩, h2, h3, h4⟩
  cases i with
  | zero => simp at hd; subst hd; exact .tl (hr 0 v _ hv rfl)
  | succ i => simp at hd

/-- the fields of a struct, from one on -/
structure OpensF (P : Program) (fs : List Field) (lo hi : Nat) {α : Type} (enc : α → List D) (wt : α → Nat) (ok : α → Prop) : Prop where
  of : ∀ {H : Type} {e : TypeId × Value → H} {w : World} {base : Nat} {sp : Nat → Bool} {fuel : Nat} {cs : List Value} {xs : List (DataW H × List MemPlace)}, cs.length = hi → xs.length = fs.length →
    (∀ (i : Nat) (f : Field), fs[i]? = some f → DataW.trod e P w base sp true fuel f.type ((cs.drop f.offset).take (P.cellsOf f.type)) = xs[i]?) →
    ∃ a, RepL (sigOf w) (cs.drop lo) (enc a) ∧ (∀ c ∈ cs.drop lo, c.oneCell' = true) ∧ wt a ≤ ((xs.map (·.1)).map bulk).sum ∧ ok a

theorem opensF_nil {hi : Nat} : OpensF P [] hi hi (fun _ : Unit => []) (fun _ => 0) (fun _ => True) := by
  refine ⟨?_⟩
  intro H e w base sp fuel cs xs hl hx h
  have : cs.drop hi = [] := by simp [← hl]
  rw [this]
  exact ⟨(), ⟨rfl, fun i v d h => by simp at h⟩, by simp, by simp, trivial⟩

theorem opensF_cons {f : Field} {fs : List Field} {lo hi k : Nat} {α β : Type} {enc : α → List D} {wt : α → Nat} {ok : α → Prop} {enc' : β → List D} {wt' : β → Nat} {ok' : β → Prop} (ho : f.offset = lo) (hk : P.cellsOf f.type = k)
    (h : Opens P f.type enc wt ok) (hr : OpensF P fs (lo + k) hi enc' wt' ok') : OpensF P (f :: fs) lo hi (fun p : α × β => enc p.1 ++ enc' p.2) (fun p => wt p.1 + wt' p.2) (fun p => ok p.1 ∧ ok' p.2) := by
  refine ⟨?_⟩
  intro H e w base sp fuel cs xs hl hx hall
  subst ho hk
  cases xs with
  | nil => simp at hx
  | cons x xs =>
    have h0 := hall 0 f rfl
    obtain ⟨a, a1, a2, a3, a4⟩ := h.of h0
    obtain ⟨b, b1, b2, b3, b4⟩ := hr.of (cs := cs) (xs := xs) hl (by simpa using hx) fun i g hg => by simpa using hall (i + 1) g (by simpa using hg)
    have hs : cs.drop f.offset = (cs.drop f.offset).take (P.cellsOf f.type) ++ cs.drop (f.offset + P.cellsOf f.type) := by
      rw [← List.drop_drop, List.take_append_drop]
    refine ⟨(a, b), ?_, ?_, by simp only [List.map_cons, List.sum_cons]; omega, a4, b4⟩
    · rw [hs]; exact a1.append b1
    · rw [hs]; intro c hc
      rcases List.mem_append.1 hc with hc | hc
      · exact a2 c hc
      · exact b2 c hc

theorem opens_struct {fs : Array Field} {hi : Nat} {α : Type} {enc : α → List D} {wt : α → Nat} {ok : α → Prop} (ht : P.underlying t = some (.struct fs)) (hh : P.cellsOf t = hi) (h : OpensF P fs.toList 0 hi enc wt ok) :
    Opens P t enc (fun a => wt a + 1) ok := by
  refine ⟨?_⟩
  intro H e w base sp fuel cs x hx
  obtain ⟨xs, n, rfl, rfl, hl, hxl, hall⟩ := DataW.trod_struct ht hx
  obtain ⟨a, a1, a2, a3, a4⟩ := h.of (cs := cs) (xs := xs) (by rw [hl, hh]) (by simpa using hxl) fun i f hf => hall i f (by simpa using hf)
  exact ⟨a, by simpa using a1, by simpa using a2, by simp only [bulk, bulkAll_sum]; omega, a4⟩

theorem Opens.map {α β : Type} {enc : α → List D} {wt : α → Nat} {ok : α → Prop} {enc' : β → List D} {wt' : β → Nat} {ok' : β → Prop} (h : Opens P t enc wt ok) (f : α → β) (h1 : ∀ a, enc' (f a) = enc a) (h2 : ∀ a, wt' (f a) ≤ wt a) (h3 : ∀ a, ok a → ok' (f a)) :
    Opens P t enc' wt' ok' := by
  refine ⟨?_⟩
  intro H e w base sp fuel cs x hx
  obtain ⟨a, a1, a2, a3, a4⟩ := h.of hx
  exact ⟨f a, by rw [h1]; exact a1, a2, Nat.le_trans (h2 a) a3, h3 a a4⟩

/-- one argument, read -/
theorem Opens.arg {H : Type} {en : TypeId × Value → H} {w : World} {base : Nat} {sp : Nat → Bool} {v : Value} {d : DataW H} {ps : List MemPlace} {α : Type} {enc : α → List D} {wt : α → Nat} {ok : α → Prop} (h : Opens P t enc wt ok)
    (hd : DataW.Trod en P w base sp true t v d ps) : ∃ a, RepL (sigOf w) v.cells.toList (enc a) ∧ wt a ≤ bulk d ∧ ok a := by
  obtain ⟨fuel, hf⟩ := hd
  obtain ⟨a, h1, _, h3, h4⟩ := h.of hf
  exact ⟨a, h1, h3, h4⟩

theorem RepL.to_one {σ : Sig} {v : Value} {d : D} (h : RepL σ [v] [d]) : RepV σ v (.one d) := h.2 0 v d rfl rfl
theorem RepL.to_agg {σ : Sig} {cs : Array Value} {ds : List D} (h : RepL σ cs.toList ds) : RepV σ (.agg cs) (.agg ds) := ⟨cs.toList, by simp, h⟩
theorem RepVs.nil {σ : Sig} : RepVs σ [] [] := ⟨rfl, fun i v d h => by simp at h⟩
theorem RepVs.cons {σ : Sig} {v : Value} {vs : List Value} {d : DV} {ds : List DV} (h : RepV σ v d) (k : RepVs σ vs ds) : RepVs σ (v :: vs) (d :: ds) :=
  ⟨by simp [k.1], fun i v' d' h1 h2 => by
    cases i with
    | zero => simp at h1 h2; subst h1 h2; exact h
    | succ i => simp at h1 h2; exact k.2 i v' d' h1 h2⟩

/-- a law's contract, called with what the row hands in -/
theorem Impl.law {f : FuncId} {args : List DV} (h : Impl P f args [.one (.sc (.bool true))]) {W : World} {vs : List Value} (hv : RepVs (sigOf W) vs args) :
    Calls P f vs.toArray W fun e W' => e = .returned (.bool true) ∧ Below W.heap.size W W' := by
  refine (h W (sigOf W) vs (sigOf_sealed W) hv).mono fun e w' ⟨u, σ', h1, h2, _, _, h5⟩ => ?_
  have h5 : Rep σ' u (.sc (.bool true)) := h5
  cases h5
  exact ⟨h1, h2⟩

end Go.Proofs.Nw.K
