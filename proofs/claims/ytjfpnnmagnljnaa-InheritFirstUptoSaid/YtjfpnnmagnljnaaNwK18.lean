/- K18: tables as lists. -/
import Derived.Test.YtjfpnnmagnljnaaNwK17
open Go Go.RowKit
set_option linter.unusedVariables false
namespace Go.Proofs.Nw.K
universe u
def lk {β : Type u} : List (Nat × β) → Nat → Option β
  | [], _ => none
  | (k, v) :: r, t => bif Nat.beq k t then some v else lk r t

theorem lk_all {β : Type u} {p : Nat → β → Prop} : ∀ {l : List (Nat × β)}, (∀ x ∈ l, p x.1 x.2) → ∀ t x, lk l t = some x → p t x
  | [], _, t, x, h => by cases h
  | (k, v) :: r, ha, t, x, h => by
    unfold lk at h
    cases hb : Nat.beq k t with
    | true =>
      rw [hb] at h
      simp only [cond_true, Option.some.injEq] at h
      have e : k = t := Nat.eq_of_beq_eq_true hb
      subst e h
      exact ha (k, v) (by simp)
    | false =>
      rw [hb] at h
      simp only [cond_false] at h
      exact lk_all (fun x hx => ha x (by simp [hx])) t x h

theorem all_nil {β : Type u} {p : Nat × β → Prop} : ∀ x ∈ ([] : List (Nat × β)), p x := fun x h => by cases h
theorem all_cons {β : Type u} {p : Nat × β → Prop} {a : Nat × β} {l : List (Nat × β)} (h : p a) (k : ∀ x ∈ l, p x) : ∀ x ∈ a :: l, p x := fun x hx => by
  rcases List.mem_cons.1 hx with rfl | hx
  · exact h
  · exact k x hx

def mkTab (ld : List (Nat × (Nat × Bool))) (fo : List (Nat × List (Nat × Nat))) (el : List (Nat × (Nat × Nat))) (ap : List (Nat × (Nat × Nat × Nat))) (kd : List (Nat × TK)) (zb : List (Nat × List AV)) (zd : List (Nat × List D))
    (bt : List (Nat × List (Nat × Nat))) (ss : List (Nat × Nat)) (cl : List (Nat × Unit)) (by_ : List (Nat × Nat)) (cv : List (Nat × List (Nat × (Nat × Nat)))) (ei : List (Nat × Unit)) (pt : List (Nat × Unit)) : Tab where
  ld := lk ld
  fo := fun t f => match lk fo t with | some r => lk r f | none => none
  el := lk el
  ap := lk ap
  kd := fun t => match lk kd t with | some k => k | none => .other
  zb := lk zb
  zd := lk zd
  bt := lk bt
  ss := lk ss
  cl := fun f => (lk cl f).isSome
  bb := lk by_
  cv := fun t f => match lk cv t with | some r => lk r f | none => none
  ei := fun f => (lk ei f).isSome
  pt := fun f => (lk pt f).isSome

def kdOf (P : Program) (t : TypeId) : TK :=
  match P.underlying t with
  | some (.int k) => .int k
  | some .string => .str
  | some .bool => .bool
  | some (.slice e) => .slice e
  | _ => .other

theorem kdOf_int {P : Program} {t : TypeId} {k : IntKind} (h : kdOf P t = .int k) : P.underlying t = some (.int k) := by
  unfold kdOf at h
  split at h <;> first | (cases h; assumption) | cases h
theorem kdOf_str {P : Program} {t : TypeId} (h : kdOf P t = .str) : P.underlying t = some .string := by
  unfold kdOf at h
  split at h <;> first | assumption | cases h
theorem kdOf_bool {P : Program} {t : TypeId} (h : kdOf P t = .bool) : P.underlying t = some .bool := by
  unfold kdOf at h
  split at h <;> first | assumption | cases h
theorem kdOf_slice {P : Program} {t e : TypeId} (h : kdOf P t = .slice e) : P.underlying t = some (.slice e) := by
  unfold kdOf at h
  split at h <;> first | (cases h; assumption) | cases h

theorem mkTab_ok {P : Program} {ld : List (Nat × (Nat × Bool))} {fo : List (Nat × List (Nat × Nat))} {el : List (Nat × (Nat × Nat))} {ap : List (Nat × (Nat × Nat × Nat))} {kd : List (Nat × TK)} {zb : List (Nat × List AV)} {zd : List (Nat × List D)}
    {bt : List (Nat × List (Nat × Nat))} {ss : List (Nat × Nat)} {cl : List (Nat × Unit)} {by_ : List (Nat × Nat)} {cv : List (Nat × List (Nat × (Nat × Nat)))} {ei : List (Nat × Unit)} {pt : List (Nat × Unit)} (h1 : ∀ x ∈ ld, ldT P x.1 = some x.2) (h2 : ∀ x ∈ fo, ∀ y ∈ x.2, fieldOff P x.1 y.1 = some y.2) (h3 : ∀ x ∈ el, elT P x.1 = some x.2) (h4 : ∀ x ∈ ap, appT P x.1 = some x.2)
    (h5 : ∀ x ∈ kd, kdOf P x.1 = x.2) (h6 : ∀ x ∈ zb, zeroOf P x.1 = some x.2) (h7 : ∀ x ∈ zd, zeroD P x.1 = some x.2) (h8 : ∀ x ∈ bt, buildT P x.1 = some x.2) (h9 : ∀ x ∈ ss, strStruct P x.1 = some x.2)
    (h10 : ∀ x ∈ cl, callable P x.1 = true) (h12 : ∀ x ∈ by_, byteT P x.1 = some x.2) (h13 : ∀ x ∈ cv, ∀ y ∈ x.2, CvOk P x.1 y.1 y.2.1 y.2.2) (h14 : ∀ x ∈ ei, IdFn P x.1) (h15 : ∀ x ∈ pt, ptrT P x.1 = true) (h11 : P.follows .mixedOrders = true) : TabOk P (mkTab ld fo el ap kd zb zd bt ss cl by_ cv ei pt) := by
  have hk : ∀ t k, (mkTab ld fo el ap kd zb zd bt ss cl by_ cv ei pt).kd t = k → k ≠ .other → kdOf P t = k := by
    intro t k h hne
    simp only [mkTab] at h
    split at h
    · rename_i k' hk'; subst h; exact lk_all (p := fun t k => kdOf P t = k) h5 t _ hk'
    · exact absurd h.symm hne
  exact {
    ld := fun t x h => by simp only [mkTab] at h; exact lk_all (p := fun t x => ldT P t = some x) h1 t x h
    fo := fun t f x h => by
      simp only [mkTab] at h
      split at h
      · rename_i r hr
        have := lk_all (p := fun t (r : List (Nat × Nat)) => ∀ y ∈ r, fieldOff P t y.1 = some y.2) h2 t r hr
        exact lk_all (p := fun f x => fieldOff P t f = some x) this f x h
      · cases h
    el := fun t x h => by simp only [mkTab] at h; exact lk_all (p := fun t x => elT P t = some x) h3 t x h
    ap := fun t x h => by simp only [mkTab] at h; exact lk_all (p := fun t x => appT P t = some x) h4 t x h
    kint := fun t k h => kdOf_int (hk t _ h (by intro e; cases e))
    kstr := fun t h => kdOf_str (hk t _ h (by intro e; cases e))
    kbool := fun t h => kdOf_bool (hk t _ h (by intro e; cases e))
    kslice := fun t e h => kdOf_slice (hk t _ h (by intro e; cases e))
    zb := fun t x h => by simp only [mkTab] at h; exact lk_all (p := fun t x => zeroOf P t = some x) h6 t x h
    zd := fun t x h => by simp only [mkTab] at h; exact lk_all (p := fun t x => zeroD P t = some x) h7 t x h
    bt := fun t x h => by simp only [mkTab] at h; exact lk_all (p := fun t x => buildT P t = some x) h8 t x h
    ss := fun t x h => by simp only [mkTab] at h; exact lk_all (p := fun t x => strStruct P t = some x) h9 t x h
    cl := fun f h => by
      simp only [mkTab] at h
      cases hc : lk cl f with
      | none => simp [hc] at h
      | some x => exact lk_all (p := fun f _ => callable P f = true) h10 f x hc
    bb := fun t x h => by simp only [mkTab] at h; exact lk_all (p := fun t x => byteT P t = some x) h12 t x h
    cv := fun s d b n h => by
      simp only [mkTab] at h
      split at h
      · rename_i r hr
        have := lk_all (p := fun t (r : List (Nat × (Nat × Nat))) => ∀ y ∈ r, CvOk P t y.1 y.2.1 y.2.2) h13 s r hr
        exact lk_all (p := fun f (x : Nat × Nat) => CvOk P s f x.1 x.2) this d (b, n) h
      · cases h
    ei := fun f h => by
      simp only [mkTab] at h
      cases hc : lk ei f with
      | none => simp [hc] at h
      | some x => exact lk_all (p := fun f _ => IdFn P f) h14 f x hc
    pt := fun f h => by
      simp only [mkTab] at h
      cases hc : lk pt f with
      | none => simp [hc] at h
      | some x => exact lk_all (p := fun f _ => ptrT P f = true) h15 f x hc
    mixed := h11 }

end Go.Proofs.Nw.K
