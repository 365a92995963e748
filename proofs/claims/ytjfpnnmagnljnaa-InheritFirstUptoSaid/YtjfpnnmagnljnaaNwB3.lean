/- B3: strings.Builder's String, at a builder of one's own. -/
import Derived.Test.YtjfpnnmagnljnaaNwB1
import Derived.Test.YtjfpnnmagnljnaaNwB2
import Derived.Test.YtjfpnnmagnljnaaNwShelf
open Go Go.RowKit Go.Proofs
set_option linter.unusedVariables false
set_option linter.unusedSimpArgs false
namespace Go.Proofs.Nw.K

theorem grown_of_below {w w' : World} (h : Below w.heap.size w w') (row : Option Nat) : w.grownBy w' row :=
  ⟨h.os, h.tape, h.output, h.size, fun k hk _ => h.block k hk⟩

theorem grown_freeze (w : World) (g n : Nat) : w.grownBy (w.drew.freeze ⟨g, 0, none⟩ n) (some g) := by
  unfold World.freeze
  split
  · exact ⟨rfl, rfl, rfl, Nat.le_refl _, fun k hk _ => rfl⟩
  · refine ⟨rfl, rfl, rfl, by simp, fun k hk hne => ?_⟩
    have hne : g ≠ k := fun e => hne (by rw [e])
    simp only [Array.getElem?_modify, if_neg hne]
    rfl

/-- an own thing is given up, whatever became of its block -/
theorem drop_own {w0 : World} {σ0 σ gh st w w'} (hb : Base w0 σ0 σ gh st w) {r : Nat} {o : AO} {g : Value} (hr : st[r]? = some o) (hg : gh[r]? = some g) (hn : o ≠ .gone) (hw : w.grownBy w' (blkOf g))
    (hkeep : ∀ v a, RepA σ gh st v a → RepA σ gh (st.set r .gone) v a) : Fut w0 σ0 σ gh st σ gh (st.set r .gone) w' := by
  have hset := set_self hg
  have := hb.turn hr hg hn hw g .gone (fun b hb' => .inl hb') trivial (by rw [hset]; exact hkeep)
  rwa [hset] at this

def byteRows (l : List UInt8) : List (List D) := l.map fun b => [.sc (.int .u8 b.toNat)]
theorem byteRows_append (a b : List UInt8) : byteRows (a ++ b) = byteRows a ++ byteRows b := by simp [byteRows]
theorem strRows_bytes (s : ByteArray) : strRows s = byteRows s.data.toList := rfl

theorem byteRows_length (l : List UInt8) : (byteRows l).length = l.length := by simp [byteRows]
theorem size_bytes (s : ByteArray) : s.size = s.data.toList.length := by simp only [Array.length_toList]; rfl

theorem write_first {st : List AO} {s : Nat} {a : AV} (hst : st[s]? = some (.box 77 [a, .nils])) (ha : a = .sc (.pointer none) ∨ a = .ptr s 0) (x : ByteArray) (hx : x.size ≤ 140737488351232) :
    Eff Try.prog 39 [.ptr s 0, .str x] st [.one (.sc (.int .i64 x.size)), .one (.sc .nilIface)] (st.set s (.box 77 [.ptr s 0, .h st.length 0 0 x.data.toList.length]) ++ [.row 0 5 1 (byteRows x.data.toList)]) := by
  have := write_new hst ha x hx
  rwa [strRows_bytes, size_bytes] at this

theorem write_more {st : List AO} {s r k : Nat} {l : List UInt8} (hst : st[s]? = some (.box 77 [.ptr s 0, .h r k 0 l.length])) (hr : st[r]? = some (.row k 5 1 (byteRows l))) (x : ByteArray) (hx : l.length + x.size ≤ 140737488351232) :
    Eff Try.prog 39 [.ptr s 0, .str x] st [.one (.sc (.int .i64 x.size)), .one (.sc .nilIface)] ((st.set r (.row (k + 1) 5 1 (byteRows (l ++ x.data.toList)))).set s (.box 77 [.ptr s 0, .h r (k + 1) 0 (l ++ x.data.toList).length])) := by
  have := write_used (s := s) (r := r) (k := k) (xs := byteRows l) (by rw [byteRows_length]; exact hst) hr x (by rw [byteRows_length]; exact hx)
  rwa [strRows_bytes, byteRows_length, ← byteRows_append, show l.length + x.size = (l ++ x.data.toList).length by rw [List.length_append, size_bytes]] at this

theorem string_new {st : List AO} {s : Nat} {a : AV} (hst : st[s]? = some (.box 77 [a, .nils])) : Eff Try.prog 41 [.ptr s 0] st [.one (.sc (.string ⟨#[]⟩))] st := by
  intro w0 σ0 σ gh w vs hb hl hvs
  obtain ⟨v, rfl⟩ := List.length_eq_one_iff.1 hl
  have h1 := hvs 0 v _ rfl rfl
  obtain ⟨b, vals, h2, rfl, h4, h5, h6, h7, _⟩ := ptr_cells hb h1 hst
  obtain ⟨vals⟩ := vals
  match vals, h6 with
  | [p, q], _ =>
    have hq := nils_val (h7 1 q .nils rfl rfl)
    subst hq
    refine (Any.Builder_String_nil Try.lays169 Try.Builder_Extra_169 w.heap.size b p w h5).mono fun e w' ⟨h8, h9⟩ => ?_
    exact ⟨_, h8, σ, gh, ⟨hb.grown (grown_of_below h9 none), fun _ _ h => h⟩, Rep.sc rfl⟩

theorem string_used {st : List AO} {s r k : Nat} {l : List UInt8} (hst : st[s]? = some (.box 77 [.ptr s 0, .h r k 0 l.length])) (hr : st[r]? = some (.row k 5 1 (byteRows l))) :
    Eff Try.prog 41 [.ptr s 0] st [.one (.sc (.string ⟨l.toArray⟩))] (st.set r .gone) := by
  intro w0 σ0 σ gh w vs hb hl hvs
  obtain ⟨v, rfl⟩ := List.length_eq_one_iff.1 hl
  have h1 := hvs 0 v _ rfl rfl
  obtain ⟨b, vals, h2, rfl, h4, h5, h6, h7, _⟩ := ptr_cells hb h1 hst
  obtain ⟨vals⟩ := vals
  have hlen : (byteRows l).length = l.length := by simp [byteRows]
  match vals, h6 with
  | [p, q], _ =>
    have hq := h7 1 q (.h r k 0 l.length) rfl rfl
    obtain ⟨g, hg, hR, A, c, hv⟩ := h_val hb hr hq
    have hqg : q = g := by
      obtain ⟨h0, ⟨a1, a2, a3⟩ | ⟨b', m, c2, a1, a2, ⟨a3, a4, _⟩ | a3⟩⟩ := hR
      · exact a3
      · omega
      · obtain ⟨A', c', hgv, hc'⟩ := row_val hb hr hg
        rw [a1] at hgv
        injection hgv with e1 e2 e3
        rw [a3, a1, e2, hlen]; simp
    subst hqg
    have hkeep : ∀ v a, RepA σ gh st v a → RepA σ gh (st.set r .gone) v a := fun v a h => h.set hr _ (fun _ _ _ _ h => by cases h)
    obtain ⟨rv, hown, hsz, hval, huns, hone⟩ := hb.obj r _ _ hr hg
    rcases hown.2 with ⟨rfl, h0⟩ | ⟨g, cap, cur, rfl, hbb, hheap, hnc, hcm, hcs, htake⟩
    · have : l = [] := List.eq_nil_of_length_eq_zero (by omega)
      subst this
      refine (Any.Builder_String_nil Try.lays169 Try.Builder_Extra_169 w.heap.size b p w h5).mono fun e w' ⟨h8, h9⟩ => ?_
      exact ⟨_, h8, σ, gh, drop_own hb hr hg (by simp) (grown_of_below h9 _) hkeep, Rep.sc rfl⟩
    · rw [hlen] at h5 hnc
      by_cases h0 : l = []
      · subst h0
        by_cases hc : cap = 0
        · subst hc
          refine (Any.Builder_String_noroom Try.lays169 Try.Builder_Extra_169 w.heap.size b g p cur w (Nat.le_refl _) h5 hheap).mono fun e w' ⟨h8, h9⟩ => ?_
          exact ⟨_, h8, σ, gh, drop_own hb hr hg (by simp) (grown_of_below h9 _) hkeep, Rep.sc rfl⟩
        · refine (Any.Builder_String_room Try.lays169 Try.Builder_Extra_169 w.heap.size b g cap p w hc h5).mono fun e w' ⟨h8, h9⟩ => ?_
          exact ⟨_, h8, σ, gh, drop_own hb hr hg (by simp) (grown_of_below h9 _) hkeep, Rep.sc rfl⟩
      · refine (String_at Try.lays169 Try.Builder_Extra_169 b g cap cur p l w h5 hheap hnc hcm (by simpa using hcs) (fun j x hx => ?_) h0).mono fun e w' ⟨h8, h9⟩ => ?_
        · obtain ⟨v, h10, h11⟩ := hval j 0 [.sc (.int .u8 x.toNat)] _ (by simp [byteRows, hx]) rfl
          have := hown.cells (g := g) rfl j v (by simpa using h10)
          rw [add_lit, Nat.zero_add] at this
          rw [this]
          have : v = .int .u8 x.toNat := RepA_sc (gh := gh) (st := st) h11
          rw [this]
        · subst h9
          exact ⟨_, h8, σ, gh, drop_own hb hr hg (by simp) (grown_freeze w g _) hkeep, Rep.sc rfl⟩

end Go.Proofs.Nw.K
