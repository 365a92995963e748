/- Bundle 9: NwXB, NwXE, NwXI0. -/
import Derived.Test.YtbooikopklijdaaGreatDoorNwG8
import Derived.Lib.Bytealg
import Derived.Lib.MakeNoZero
import Derived.Lib.IndexAny
import Derived.Test.YtbooikopklijdaaGreatDoorProg
import Derived.ChangeKeysEq
set_option linter.constructorNameAsVariable false
set_option linter.unusedVariables false
set_option linter.unusedSimpArgs false
set_option linter.unusedSectionVars false
section
/- XB: tables as trees; printed forms of functions. -/
open Go Go.RowKit
namespace Go.Proofs.Nw.X
open Go.Proofs.Nw.K
universe u
inductive BT (β : Type u) where
  | e
  | n (k : Nat) (v : β) (l r : BT β)
section
variable {β : Type u}
noncomputable def BT.get (b : BT β) : Nat → Option β :=
  BT.rec (motive := fun _ => Nat → Option β) (fun _ => none) (fun k v _ _ il ir t => cond (Nat.blt t k) (il t) (cond (Nat.beq t k) (some v) (ir t))) b
def BT.toL : BT β → List (Nat × β)
  | .e => []
  | .n k v l r => l.toL ++ (k, v) :: r.toL
theorem BT.get_mem : ∀ {b : BT β} {t : Nat} {x : β}, b.get t = some x → (t, x) ∈ b.toL
  | .e, t, x, h => by cases h
  | .n k v l r, t, x, h => by
    have h : cond (Nat.blt t k) (l.get t) (cond (Nat.beq t k) (some v) (r.get t)) = some x := h
    unfold BT.toL
    cases c1 : Nat.blt t k <;> rw [c1] at h
    · cases c2 : Nat.beq t k <;> rw [c2] at h
      · exact List.mem_append.2 (.inr (List.mem_cons.2 (.inr (BT.get_mem h))))
      · have e := Nat.eq_of_beq_eq_true c2
        cases h
        subst e
        exact List.mem_append.2 (.inr (List.mem_cons.2 (.inl rfl)))
    · exact List.mem_append.2 (.inl (BT.get_mem h))
theorem BT.get_ok {p : Nat → β → Prop} {b : BT β} (h : ∀ x ∈ b.toL, p x.1 x.2) {t : Nat} {x : β} (hx : b.get t = some x) : p t x := h (t, x) (BT.get_mem hx)
theorem map_ok {f : Nat → Option β} {l : List (Nat × β)} (h : (l.map fun x => f x.1) = l.map fun x => some x.2) : ∀ x ∈ l, f x.1 = some x.2 := List.map_inj_left.1 h
theorem map_okB {f : Nat → Bool} {l : List (Nat × β)} (h : (l.map fun x => f x.1) = l.map fun _ => true) : ∀ x ∈ l, f x.1 = true := List.map_inj_left.1 h
end
noncomputable def tabT (ld : BT (Nat × Bool)) (fo : BT (List (Nat × Nat))) (el : BT (Nat × Nat)) (ap : BT (Nat × Nat × Nat)) (kd : BT TK) (zd : BT (List D)) (bt : BT (List (Nat × Nat))) (ss : BT Nat) (by_ : BT Nat) (cv : BT (List (Nat × (Nat × Nat)))) (ei : BT Unit) (pt : BT Unit) : Tab where
  ld := ld.get
  fo := fun t f => match fo.get t with | some r => lk r f | none => none
  el := el.get
  ap := ap.get
  kd := fun t => match kd.get t with | some k => k | none => .other
  zb := fun _ => none
  zd := zd.get
  bt := bt.get
  ss := ss.get
  cl := fun _ => false
  bb := by_.get
  cv := fun t f => match cv.get t with | some r => lk r f | none => none
  ei := fun f => match ei.get f with | some _ => true | none => false
  pt := fun f => match pt.get f with | some _ => true | none => false
theorem tabT_ok {P : Program} {ld : BT (Nat × Bool)} {fo : BT (List (Nat × Nat))} {el : BT (Nat × Nat)} {ap : BT (Nat × Nat × Nat)} {kd : BT TK} {zd : BT (List D)} {bt : BT (List (Nat × Nat))} {ss : BT Nat} {by_ : BT Nat} {cv : BT (List (Nat × (Nat × Nat)))} {ei : BT Unit} {pt : BT Unit}
    (h1 : ∀ x ∈ ld.toL, ldT P x.1 = some x.2) (h2 : (fo.toL.map fun x => x.2.map fun y => fieldOff P x.1 y.1) = fo.toL.map fun x => x.2.map fun y => some y.2) (h3 : ∀ x ∈ el.toL, elT P x.1 = some x.2) (h4 : ∀ x ∈ ap.toL, appT P x.1 = some x.2) (h5 : (kd.toL.map fun x => kdOf P x.1) = kd.toL.map fun x => x.2)
    (h7 : ∀ x ∈ zd.toL, zeroD P x.1 = some x.2) (h8 : ∀ x ∈ bt.toL, buildT P x.1 = some x.2) (h9 : ∀ x ∈ ss.toL, strStruct2 P x.1 = some x.2) (h12 : ∀ x ∈ by_.toL, byteT P x.1 = some x.2) (h13 : ∀ x ∈ cv.toL, ∀ y ∈ x.2, CvOk P x.1 y.1 y.2.1 y.2.2) (h14 : ∀ x ∈ ei.toL, IdFn P x.1)
    (h15 : ∀ x ∈ pt.toL, ptrT P x.1 = true) (hm : P.follows .mixedOrders = true) : TabOk P (tabT ld fo el ap kd zd bt ss by_ cv ei pt) := by
  have hk : ∀ t k, (tabT ld fo el ap kd zd bt ss by_ cv ei pt).kd t = k → k ≠ .other → kdOf P t = k := by
    intro t k h hne
    simp only [tabT] at h
    split at h
    · rename_i k' hk'
      subst h
      have h5 := List.map_inj_left.1 h5
      exact BT.get_ok (p := fun t k => kdOf P t = k) h5 hk'
    · exact absurd h.symm hne
  exact {
    ld := fun t x h => BT.get_ok (p := fun t x => ldT P t = some x) h1 h
    fo := fun t f x h => by
      simp only [tabT] at h
      split at h
      · rename_i r hr
        have h2 := List.map_inj_left.1 h2 (t, r) (BT.get_mem hr)
        have h2 : ∀ y ∈ r, fieldOff P t y.1 = some y.2 := List.map_inj_left.1 h2
        exact lk_all (p := fun f x => fieldOff P t f = some x) h2 f x h
      · cases h
    el := fun t x h => BT.get_ok (p := fun t x => elT P t = some x) h3 h
    ap := fun t x h => BT.get_ok (p := fun t x => appT P t = some x) h4 h
    kint := fun t k h => kdOf_int (hk t _ h (by intro e; cases e))
    kstr := fun t h => kdOf_str (hk t _ h (by intro e; cases e))
    kbool := fun t h => kdOf_bool (hk t _ h (by intro e; cases e))
    kslice := fun t e h => kdOf_slice (hk t _ h (by intro e; cases e))
    zb := fun t x h => by cases h
    zd := fun t x h => BT.get_ok (p := fun t x => zeroD P t = some x) h7 h
    bt := fun t x h => BT.get_ok (p := fun t x => buildT P t = some x) h8 h
    ss := fun t x h => BT.get_ok (p := fun t x => strStruct2 P t = some x) h9 h
    cl := fun f h => by cases h
    bb := fun t x h => BT.get_ok (p := fun t x => byteT P t = some x) h12 h
    cv := fun s d b n h => by
      simp only [tabT] at h
      split at h
      · rename_i r hr
        have := h13 (s, r) (BT.get_mem hr)
        exact lk_all (p := fun d (x : Nat × Nat) => CvOk P s d x.1 x.2) (l := r) (fun y hy => this y hy) d (b, n) h
      · cases h
    ei := fun f h => by
      simp only [tabT] at h
      split at h
      · rename_i r hr; exact h14 (f, r) (BT.get_mem hr)
      · cases h
    pt := fun t h => by
      simp only [tabT] at h
      split at h
      · rename_i r hr; exact h15 (t, r) (BT.get_mem hr)
      · cases h
    mixed := hm }
noncomputable abbrev fuX : Nat := 100000
abbrev CF := FuncId → Fn1
noncomputable def w0 (s : CF → H → Id → KV → R) : CF → Fn1 := fun cf vs h n k => List.casesOn (motive := fun _ => R) vs (s cf h n k) fun _ _ => none
noncomputable def w1 (s : CF → V → H → Id → KV → R) : CF → Fn1 := fun cf vs h n k => List.casesOn (motive := fun _ => R) vs none fun a r => w0 (fun cf => s cf a) cf r h n k
noncomputable def w2 (s : CF → V → V → H → Id → KV → R) : CF → Fn1 := fun cf vs h n k => List.casesOn (motive := fun _ => R) vs none fun a r => w1 (fun cf => s cf a) cf r h n k
noncomputable def w3 (s : CF → V → V → V → H → Id → KV → R) : CF → Fn1 := fun cf vs h n k => List.casesOn (motive := fun _ => R) vs none fun a r => w2 (fun cf => s cf a) cf r h n k
noncomputable def w4 (s : CF → V → V → V → V → H → Id → KV → R) : CF → Fn1 := fun cf vs h n k => List.casesOn (motive := fun _ => R) vs none fun a r => w3 (fun cf => s cf a) cf r h n k
noncomputable def w5 (s : CF → V → V → V → V → V → H → Id → KV → R) : CF → Fn1 := fun cf vs h n k => List.casesOn (motive := fun _ => R) vs none fun a r => w4 (fun cf => s cf a) cf r h n k
noncomputable def w6 (s : CF → V → V → V → V → V → V → H → Id → KV → R) : CF → Fn1 := fun cf vs h n k => List.casesOn (motive := fun _ => R) vs none fun a r => w5 (fun cf => s cf a) cf r h n k
noncomputable def w7 (s : CF → V → V → V → V → V → V → V → H → Id → KV → R) : CF → Fn1 := fun cf vs h n k => List.casesOn (motive := fun _ => R) vs none fun a r => w6 (fun cf => s cf a) cf r h n k
theorem w0_ok {s : CF → H → Id → KV → R} {G : CF → Fn1} (H : ∀ cf h n k, G cf [] h n k = s cf h n k) : ∀ cf vs h n k r, w0 s cf vs h n k = some r → G cf vs h n k = some r
  | cf, [], h, n, k, r, hr => (H cf h n k).trans hr
  | cf, _ :: _, h, n, k, r, hr => by cases hr
theorem w1_ok {s : CF → V → H → Id → KV → R} {G : CF → Fn1} (H : ∀ cf a h n k, G cf [a] h n k = s cf a h n k) : ∀ cf vs h n k r, w1 s cf vs h n k = some r → G cf vs h n k = some r
  | cf, [], h, n, k, r, hr => by cases hr
  | cf, a :: vs, h, n, k, r, hr => w0_ok (G := fun cf vs => G cf (a :: vs)) (s := fun cf => s cf a) (fun cf => H cf a) cf vs h n k r hr
theorem w2_ok {s : CF → V → V → H → Id → KV → R} {G : CF → Fn1} (H : ∀ cf a b h n k, G cf [a, b] h n k = s cf a b h n k) : ∀ cf vs h n k r, w2 s cf vs h n k = some r → G cf vs h n k = some r
  | cf, [], h, n, k, r, hr => by cases hr
  | cf, a :: vs, h, n, k, r, hr => w1_ok (G := fun cf vs => G cf (a :: vs)) (s := fun cf => s cf a) (fun cf => H cf a) cf vs h n k r hr
theorem w3_ok {s : CF → V → V → V → H → Id → KV → R} {G : CF → Fn1} (H : ∀ cf a b c h n k, G cf [a, b, c] h n k = s cf a b c h n k) : ∀ cf vs h n k r, w3 s cf vs h n k = some r → G cf vs h n k = some r
  | cf, [], h, n, k, r, hr => by cases hr
  | cf, a :: vs, h, n, k, r, hr => w2_ok (G := fun cf vs => G cf (a :: vs)) (s := fun cf => s cf a) (fun cf => H cf a) cf vs h n k r hr
theorem w4_ok {s : CF → V → V → V → V → H → Id → KV → R} {G : CF → Fn1} (H : ∀ cf a b c d h n k, G cf [a, b, c, d] h n k = s cf a b c d h n k) : ∀ cf vs h n k r, w4 s cf vs h n k = some r → G cf vs h n k = some r
  | cf, [], h, n, k, r, hr => by cases hr
  | cf, a :: vs, h, n, k, r, hr => w3_ok (G := fun cf vs => G cf (a :: vs)) (s := fun cf => s cf a) (fun cf => H cf a) cf vs h n k r hr
theorem w5_ok {s : CF → V → V → V → V → V → H → Id → KV → R} {G : CF → Fn1} (H : ∀ cf a b c d e h n k, G cf [a, b, c, d, e] h n k = s cf a b c d e h n k) : ∀ cf vs h n k r, w5 s cf vs h n k = some r → G cf vs h n k = some r
  | cf, [], h, n, k, r, hr => by cases hr
  | cf, a :: vs, h, n, k, r, hr => w4_ok (G := fun cf vs => G cf (a :: vs)) (s := fun cf => s cf a) (fun cf => H cf a) cf vs h n k r hr
theorem w6_ok {s : CF → V → V → V → V → V → V → H → Id → KV → R} {G : CF → Fn1} (H : ∀ cf a b c d e f h n k, G cf [a, b, c, d, e, f] h n k = s cf a b c d e f h n k) : ∀ cf vs h n k r, w6 s cf vs h n k = some r → G cf vs h n k = some r
  | cf, [], h, n, k, r, hr => by cases hr
  | cf, a :: vs, h, n, k, r, hr => w5_ok (G := fun cf vs => G cf (a :: vs)) (s := fun cf => s cf a) (fun cf => H cf a) cf vs h n k r hr
def PfOk (P : Program) (T : Tab) (M : MTab) (f : FuncId) (s : CF → Fn1) : Prop := ∀ cf, (∀ f, Sd P f (cf f)) → Sd P f (s cf)
theorem pf_of {P : Program} {T : Tab} {M : MTab} (hT : TabOk P T) (h8 : u8T P T) (hM : MTabOk P M) (hF : FlOk P M) {f : FuncId} {e : FE} (he : FEOk P f e) {s : CF → Fn1} (H : ∀ cf vs h n k r, s cf vs h n k = some r → evFn T M (fun cf _ => drF T M cf) fuX cf e vs h n k = some r) : PfOk P T M f s :=
  fun cf hcf vs h n k r hr => evFn_ok hT h8 hM hF (fun cf hcf N => drF_ok ⟨hT, h8, hM, hF, hcf⟩ hT.mixed) hcf he vs h n k r (H cf vs h n k r hr)
theorem pf_ext {P : Program} {T : Tab} {M : MTab} {f : FuncId} {g : Fn1} (h : Sd P f g) : PfOk P T M f (fun _ => g) := fun _ _ => h
noncomputable def cfB (b : BT (CF → Fn1)) (d : Nat) : CF :=
  Nat.rec (motive := fun _ => CF) (fun _ _ _ _ _ => none) (fun _ ih f => Option.casesOn (motive := fun _ => Fn1) (b.get f) (fun _ _ _ _ => none) fun s => s ih) d
theorem cfB_ok {P : Program} {T : Tab} {M : MTab} {b : BT (CF → Fn1)} (H : ∀ x ∈ b.toL, PfOk P T M x.1 x.2) : ∀ d f, Sd P f (cfB b d f)
  | 0, f => fun vs h n k r hr => by cases hr
  | d + 1, f => by
    have e : cfB b (d + 1) f = Option.casesOn (motive := fun _ => Fn1) (b.get f) (fun _ _ _ _ => none) fun s => s (cfB b d) := rfl
    rw [e]
    cases hg : b.get f with
    | none => exact fun vs h n k r hr => by cases hr
    | some s => exact H (f, s) (BT.get_mem hg) (cfB b d) (cfB_ok H d)
end Go.Proofs.Nw.X
end
section
/- XE: functions without a body, and the library's by their contracts, as the evaluator's. -/
open Go Go.RowKit
namespace Go.Proofs.Nw.X
open Go.Proofs.Nw.K
noncomputable def ixF (c l : Nat) : Nat → Nat → Option Nat :=
  Nat.rec (motive := fun _ => Nat → Nat → Option Nat) (fun _ _ => none) (fun m ih x i => cond (Nat.beq (x / 256 ^ m) c) (some i) (fN (x % 256 ^ m) fun x => fN (Nat.succ i) fun i => ih x i)) l
theorem valB_cons (b : UInt8) (l : List UInt8) : valB (b :: l) / 256 ^ l.length = b.toNat ∧ valB (b :: l) % 256 ^ l.length = valB l := by
  have h := valB_lt l
  have hp : 0 < 256 ^ l.length := Nat.pow_pos (by omega)
  simp only [valB]
  constructor
  · rw [Nat.mul_comm, Nat.mul_add_div hp, Nat.div_eq_of_lt h]; simp
  · rw [Nat.add_comm, Nat.add_mul_mod_self_right, Nat.mod_eq_of_lt h]
theorem ixF_cons (c : Nat) (b : UInt8) (l : List UInt8) (i : Nat) : ixF c (b :: l).length (valB (b :: l)) i = cond (Nat.beq b.toNat c) (some i) (ixF c l.length (valB l) (i + 1)) := by
  show cond (Nat.beq (valB (b :: l) / 256 ^ l.length) c) (some i) (fN (valB (b :: l) % 256 ^ l.length) fun x => fN (Nat.succ i) fun i => ixF c l.length x i) = _
  rw [(valB_cons b l).1, (valB_cons b l).2, fN_eq, fN_eq]
theorem beq_u8 (b c : UInt8) : Nat.beq b.toNat c.toNat = (b == c) := by
  rw [beq_eq]
  by_cases h : b = c
  · subst h; simp
  · have : ¬ b.toNat = c.toNat := fun e => h (UInt8.toNat_inj.1 e)
    simp [h, this]
theorem ixF_ok (c : UInt8) : ∀ (l : List UInt8) (i : Nat), (ixF c.toNat l.length (valB l) i = none ∧ Lib.indexByte l c = -1) ∨ ∃ j : Nat, ixF c.toNat l.length (valB l) i = some (i + j) ∧ Lib.indexByte l c = (j : Int)
  | [], i => .inl ⟨rfl, rfl⟩
  | b :: l, i => by
    rw [ixF_cons, beq_u8]
    unfold Lib.indexByte
    cases hb : (b == c) with
    | true => exact .inr ⟨0, rfl, rfl⟩
    | false =>
      rcases ixF_ok c l (i + 1) with ⟨h1, h2⟩ | ⟨j, h1, h2⟩
      · exact .inl ⟨h1, by rw [h2]; rfl⟩
      · refine .inr ⟨j + 1, by simp only [cond_false]; rw [h1]; congr 1; omega, ?_⟩
        have hne : ((j : Int) == -1) = false := by
          have : ¬ (j : Int) = -1 := by omega
          simp [this]
        rw [h2, hne]
        simp
theorem ixF_mem (c : UInt8) : ∀ (l : List UInt8) (i : Nat), (ixF c.toNat l.length (valB l) i = none ∧ l.contains c = false) ∨ ((∃ j, ixF c.toNat l.length (valB l) i = some j) ∧ l.contains c = true)
  | [], i => .inl ⟨rfl, rfl⟩
  | b :: l, i => by
    rw [ixF_cons, beq_u8, List.contains_cons]
    have e : (c == b) = (b == c) := by
      by_cases h : b = c
      · subst h; rfl
      · have h' : ¬ c = b := fun e => h e.symm
        rw [beq_eq_false_iff_ne.2 h, beq_eq_false_iff_ne.2 h']
    rw [e]
    cases hb : (b == c) with
    | true => exact .inr ⟨⟨i, rfl⟩, rfl⟩
    | false =>
      rcases ixF_mem c l (i + 1) with ⟨h1, h2⟩ | ⟨⟨j, h1⟩, h2⟩
      · exact .inl ⟨h1, by rw [h2]; rfl⟩
      · exact .inr ⟨⟨j, h1⟩, by rw [h2]; rfl⟩
noncomputable def iaF (lc xc l : Nat) : Nat → Nat → Option Nat :=
  Nat.rec (motive := fun _ => Nat → Nat → Option Nat) (fun _ _ => none) (fun m ih x i => fN (x / 256 ^ m) fun b => Option.casesOn (motive := fun _ => Option Nat) (ixF b lc xc 0) (fN (x % 256 ^ m) fun x => fN (Nat.succ i) fun i => ih x i) fun _ => some i) l
theorem iaF_cons (lc xc : Nat) (b : UInt8) (l : List UInt8) (i : Nat) : iaF lc xc (b :: l).length (valB (b :: l)) i = Option.casesOn (motive := fun _ => Option Nat) (ixF b.toNat lc xc 0) (iaF lc xc l.length (valB l) (i + 1)) fun _ => some i := by
  show (fN (valB (b :: l) / 256 ^ l.length) fun b' => Option.casesOn (motive := fun _ => Option Nat) (ixF b' lc xc 0) (fN (valB (b :: l) % 256 ^ l.length) fun x => fN (Nat.succ i) fun i => iaF lc xc l.length x i) fun _ => some i) = _
  rw [(valB_cons b l).1, (valB_cons b l).2, fN_eq, fN_eq, fN_eq]
theorem iaF_ok (cs : List UInt8) : ∀ (l : List UInt8) (i : Nat), (iaF cs.length (valB cs) l.length (valB l) i = none ∧ Lib.indexAny l cs = -1) ∨ ∃ j : Nat, iaF cs.length (valB cs) l.length (valB l) i = some (i + j) ∧ Lib.indexAny l cs = (j : Int)
  | [], i => .inl ⟨rfl, rfl⟩
  | b :: l, i => by
    rw [iaF_cons]
    unfold Lib.indexAny
    rcases ixF_mem b cs 0 with ⟨h1, h2⟩ | ⟨⟨j, h1⟩, h2⟩
    · rw [h1, h2]
      rcases iaF_ok cs l (i + 1) with ⟨h3, h4⟩ | ⟨j, h3, h4⟩
      · exact .inl ⟨h3, by rw [h4]; rfl⟩
      · refine .inr ⟨j + 1, by show iaF _ _ _ _ _ = _; rw [h3]; congr 1; omega, ?_⟩
        have hne : ((j : Int) == -1) = false := by
          have : ¬ (j : Int) = -1 := by omega
          simp [this]
        rw [h4, hne]
        simp
    · rw [h1, h2]
      exact .inr ⟨0, rfl, rfl⟩
noncomputable def ascF (l : Nat) : Nat → Bool := Nat.rec (motive := fun _ => Nat → Bool) (fun _ => true) (fun m ih x => cond (Nat.blt (x / 256 ^ m) 128) (fN (x % 256 ^ m) ih) false) l
theorem ascF_ok : ∀ (l : List UInt8), ascF l.length (valB l) = true → ∀ (j : Nat) b, l[j]? = some b → b.toNat < 128
  | [], _, j, b, h => by simp at h
  | c :: l, ha, j, b, h => by
    have ha : cond (Nat.blt (valB (c :: l) / 256 ^ l.length) 128) (fN (valB (c :: l) % 256 ^ l.length) (ascF l.length)) false = true := ha
    rw [(valB_cons c l).1, (valB_cons c l).2, fN_eq, blt_eq] at ha
    by_cases hc : c.toNat < 128
    · simp only [hc, decide_true, cond_true] at ha
      cases j with
      | zero => simp at h; subst h; exact hc
      | succ j => exact ascF_ok l ha j b (by simpa using h)
    · simp only [hc, decide_false, cond_false] at ha; cases ha
noncomputable def isF (ls xs l : Nat) : Nat → Nat → Option Nat :=
  Nat.rec (motive := fun _ => Nat → Nat → Option Nat) (fun _ i => cond (Nat.beq ls 0) (some i) none)
    (fun m ih x i => cond (Nat.ble ls (Nat.succ m)) (cond (Nat.beq (x / 256 ^ (Nat.succ m - ls)) xs) (some i) (fN (x % 256 ^ m) fun x => fN (Nat.succ i) fun i => ih x i)) none) l
theorem pre_iff (sub s : List UInt8) : sub.isPrefixOf s = (Nat.ble sub.length s.length && Nat.beq (valB s / 256 ^ (s.length - sub.length)) (valB sub)) := by
  rw [ble_eq, beq_eq, Bool.eq_iff_iff, List.isPrefixOf_iff_prefix, Bool.and_eq_true, decide_eq_true_iff, decide_eq_true_iff]
  constructor
  · rintro ⟨t, rfl⟩
    refine ⟨by simp, ?_⟩
    have hp : 0 < 256 ^ t.length := Nat.pow_pos (by omega)
    have h := valB_lt t
    rw [valB_app, List.length_append, Nat.add_sub_cancel_left, Nat.mul_comm, Nat.mul_add_div hp, Nat.div_eq_of_lt h]
    simp
  · rintro ⟨h1, h2⟩
    have hp : 0 < 256 ^ (s.drop sub.length).length := Nat.pow_pos (by omega)
    have h := valB_lt (s.drop sub.length)
    have e : s = s.take sub.length ++ s.drop sub.length := (List.take_append_drop _ _).symm
    have h3 : valB s / 256 ^ (s.length - sub.length) = valB (s.take sub.length) := by
      conv => lhs; rw [e]
      rw [valB_app, ← e, ← List.length_drop, Nat.mul_comm, Nat.mul_add_div hp, Nat.div_eq_of_lt h]
      simp
    have h4 : s.take sub.length = sub := valB_inj (by simp; omega) (h3.symm.trans h2)
    exact ⟨s.drop sub.length, (congrArg (· ++ s.drop sub.length) h4.symm).trans e.symm⟩
theorem isF_ok (sub : List UInt8) : ∀ (l : List UInt8) (i : Nat), (isF sub.length (valB sub) l.length (valB l) i = none ∧ Lib.index l sub = -1) ∨ ∃ j : Nat, isF sub.length (valB sub) l.length (valB l) i = some (i + j) ∧ Lib.index l sub = (j : Int)
  | [], i => by
    unfold Lib.index
    cases sub with
    | nil => exact .inr ⟨0, rfl, rfl⟩
    | cons b m => exact .inl ⟨rfl, rfl⟩
  | b :: l, i => by
    have e : isF sub.length (valB sub) (b :: l).length (valB (b :: l)) i = cond (Nat.ble sub.length (b :: l).length) (cond (Nat.beq (valB (b :: l) / 256 ^ ((b :: l).length - sub.length)) (valB sub)) (some i) (isF sub.length (valB sub) l.length (valB l) (i + 1))) none := by
      show cond (Nat.ble sub.length (b :: l).length) (cond (Nat.beq (valB (b :: l) / 256 ^ ((b :: l).length - sub.length)) (valB sub)) (some i) (fN (valB (b :: l) % 256 ^ l.length) fun x => fN (Nat.succ i) fun i => isF sub.length (valB sub) l.length x i)) none = _
      rw [(valB_cons b l).2, fN_eq, fN_eq]
    rw [e]
    unfold Lib.index
    rw [pre_iff]
    have hlong : ∀ (l : List UInt8), l.length < sub.length → Lib.index l sub = -1 := by
      intro l
      induction l with
      | nil => intro h; unfold Lib.index; cases sub with | nil => cases h | cons _ _ => rfl
      | cons c l ih =>
        intro h
        unfold Lib.index
        have hx : (Nat.ble sub.length (c :: l).length) = false := by rw [ble_eq]; simp only [decide_eq_false_iff_not]; omega
        rw [pre_iff, hx, ih (by simp only [List.length_cons] at h; omega)]
        rfl
    cases h1 : Nat.ble sub.length (b :: l).length with
    | false =>
      have h1' : ¬ sub.length ≤ (b :: l).length := by rw [ble_eq] at h1; exact of_decide_eq_false h1
      refine .inl ⟨rfl, ?_⟩
      rw [hlong l (by simp only [List.length_cons] at h1'; omega)]
      rfl
    | true =>
      simp only [cond_true, Bool.true_and]
      cases h2 : Nat.beq (valB (b :: l) / 256 ^ ((b :: l).length - sub.length)) (valB sub) with
      | true => exact .inr ⟨0, rfl, rfl⟩
      | false =>
        simp only [cond_false]
        rcases isF_ok sub l (i + 1) with ⟨h3, h4⟩ | ⟨j, h3, h4⟩
        · exact .inl ⟨h3, by rw [h4]; rfl⟩
        · refine .inr ⟨j + 1, by rw [h3]; congr 1; omega, ?_⟩
          have hne : ((j : Int) == -1) = false := by
            have : ¬ (j : Int) = -1 := by omega
            simp [this]
          rw [h4, hne]
          simp
noncomputable def gSi : Fn1 := fun vs h n k => match vs with
  | [.s l x, .s ls xs] => cond (Nat.ble l 1048576) (match isF ls xs l x 0 with | some i => fN i fun i => k (.i .i64 (.ofNat i)) h n | none => k (.i .i64 (.negSucc 0)) h n) none
  | _ => none
noncomputable def gId : Fn1 := fun vs h n k => match vs with | [v] => k v h n | _ => none
noncomputable def gIx : Fn1 := fun vs h n k => match vs with
  | [.s l x, .i .u8 (.ofNat c)] => cond (Nat.blt c 256) (match ixF c l x 0 with | some i => fN i fun i => k (.i .i64 (.ofNat i)) h n | none => k (.i .i64 (.negSucc 0)) h n) none
  | _ => none
noncomputable def gMkz (e : TypeId) : Fn1 := fun vs h n k => match vs with
  | [.i .i64 (.ofNat m)] => cond (Nat.ble m 16777216) (match nxt n with | some n' => k (.sl n 1 0 m) (hset (.bs (Nat.succ e) 0 0 0) n h) n' | none => none) none
  | _ => none
noncomputable def gIa : Fn1 := fun vs h n k => match vs with
  | [.s l x, .s lc xc] => cond (Nat.ble l 1048576) (cond (Nat.ble lc 1048576) (cond (ascF l x) (cond (ascF lc xc) (match iaF lc xc l x 0 with | some i => fN i fun i => k (.i .i64 (.ofNat i)) h n | none => k (.i .i64 (.negSucc 0)) h n) none) none) none) none
  | _ => none
section
variable {P : Program} {f : FuncId}
theorem sd_id (hf : IdFn P f) : Sd P f gId := by
  intro vs h n k r hr
  unfold gId at hr
  split at hr
  · rename_i v
    refine ⟨v, h, n, hr, fun F ι w us hb hus => ?_⟩
    obtain ⟨u, r', rfl, h1, h2⟩ := hus
    have h2 : r' = [] := h2
    subst h2
    rw [show [u].toArray = #[u] from rfl, hf u w]
    exact ⟨ι, Ext.refl _, hb, h1⟩
  · cases hr
theorem sd_ix (hf : ∀ (s : ByteArray) (c : Int) (w : World), (callFunc f #[.string s, .int .u8 c]).run P w = .ok (.value (.int .i64 (Lib.indexByte s.data.toList c.toNat.toUInt8))) w) : Sd P f gIx := by
  intro vs h n k r hr
  unfold gIx at hr
  split at hr
  · rename_i l x c
    rw [blt_eq] at hr
    by_cases hc : c < 256
    case neg => simp only [hc, decide_false, cond_false] at hr; cases hr
    simp only [hc, decide_true, cond_true] at hr
    have run : ∀ (F : Fx) (ι : Io) (w : World) (us : List Value), RVs ι [V.s l x, .i .u8 (.ofNat c)] us → ∃ s : ByteArray, SRep l x s ∧ (callFunc f us.toArray).run P w = .ok (.value (.int .i64 (Lib.indexByte s.data.toList (UInt8.ofNat c)))) w := fun F ι w us hus => by
      obtain ⟨u, r1, rfl, ⟨s, hs1, hs2⟩, u2, r2, rfl, h4, h5⟩ := hus
      have h5 : r2 = [] := h5
      have h4 : u2 = .int .u8 (c : Int) := h4
      subst h5 h4 hs1
      exact ⟨s, hs2, by rw [show [Value.string s, .int .u8 (c : Int)].toArray = #[.string s, .int .u8 (c : Int)] from rfl, hf]; simp⟩
    have hcn : (UInt8.ofNat c).toNat = c := by simp; omega
    cases hi : ixF c l x 0 with
    | some i =>
      rw [hi] at hr
      simp only [fN_eq] at hr
      refine ⟨_, h, n, hr, fun F ι w us hb hus => ?_⟩
      obtain ⟨s, hs, hrun⟩ := run F ι w us hus
      rw [hrun]
      refine ⟨ι, Ext.refl _, hb, ?_⟩
      rcases ixF_ok (UInt8.ofNat c) s.data.toList 0 with ⟨h1, h2⟩ | ⟨j, h1, h2⟩
      · rw [hcn, hs.1, hs.2, hi] at h1; cases h1
      · rw [hcn, hs.1, hs.2, hi] at h1
        have : i = j := by have := Option.some.inj h1; omega
        subst this
        rw [h2]; rfl
    | none =>
      rw [hi] at hr
      refine ⟨_, h, n, hr, fun F ι w us hb hus => ?_⟩
      obtain ⟨s, hs, hrun⟩ := run F ι w us hus
      rw [hrun]
      refine ⟨ι, Ext.refl _, hb, ?_⟩
      rcases ixF_ok (UInt8.ofNat c) s.data.toList 0 with ⟨h1, h2⟩ | ⟨j, h1, h2⟩
      · rw [h2]; rfl
      · rw [hcn, hs.1, hs.2, hi] at h1; cases h1
  · cases hr
theorem sd_mkz {e : TypeId} (hf : ∀ (m : Nat) (w : World), m ≤ 281474976710656 → ∃ cs : Array Value, (callFunc f #[.int .i64 m]).run P w = .ok (.value (.slice (some ⟨w.heap.size, 0, none⟩) m cs.size)) (w.drew.drew.alloc (.cells cs e)) ∧ m ≤ cs.size ∧ (m ≤ maxLen → cs.size ≤ maxLen)) : Sd P f (gMkz e) := by
  intro vs h n k r hr
  unfold gMkz at hr
  split at hr
  · rename_i m
    rw [ble_eq] at hr
    by_cases hc : m ≤ 16777216
    case neg => simp only [hc, decide_false, cond_false] at hr; cases hr
    simp only [hc, decide_true, cond_true] at hr
    split at hr
    · rename_i n' hn
      refine ⟨_, _, _, hr, fun F ι w us hb hus => ?_⟩
      obtain ⟨u, r1, rfl, h4, h5⟩ := hus
      have h5 : r1 = [] := h5
      have h4 : u = .int .i64 (m : Int) := h4
      subst h5 h4
      obtain ⟨cs, g1, g2, g3⟩ := hf m w (by omega)
      rw [show [Value.int .i64 (m : Int)].toArray = #[.int .i64 (m : Int)] from rfl, g1]
      have hg : w.grownBy (w.drew.drew.alloc (.cells cs e)) none := ⟨rfl, rfl, rfl, by show w.heap.size ≤ (w.heap.push _).size; simp, fun k hk _ => by
        have := Below.heap_alloc w.drew.drew (.cells cs e) k hk
        exact this⟩
      have hm := g3 (by simp only [maxLen]; omega)
      refine ⟨_, hb.ext ⟨w.heap.size, 0, cs.size⟩, hb.alloc hn hg (by show w.drawn ≤ w.drawn + 1 + 1; omega) _ _ rfl (by show w.heap.size < (w.heap.push _).size; simp) ⟨cs, e, (0, 0), [], heap_alloc_new w.drew.drew _, rfl, by simp, rfl, rfl, fun i b hib => (by simp at hib), fun off _ _ => (by simp), fun _ => ⟨rfl, rfl, rfl⟩⟩,
        ⟨w.heap.size, 0, cs.size⟩, cs.size, upI_same _ _ _, g2, hm, ?_⟩
      by_cases h0 : 0 < cs.size
      · exact .inl ⟨h0, by simp, by simp⟩
      · exact .inr ⟨by omega, ⟨w.heap.size, 0, none⟩, by rw [show cs.size = 0 by omega, show m = 0 by omega]⟩
    · cases hr
  · cases hr
theorem sd_ia (hcall : callable P f = true) (hf : ∀ (s chars : ByteArray) (w : World), s.size < 4294967281 → chars.size < 4294967281 → (∀ (j : Nat) b, s.data.toList[j]? = some b → b.toNat < 128) → (∀ (j : Nat) b, chars.data.toList[j]? = some b → b.toNat < 128) →
    Calls P f #[.string s, .string chars] w fun e w' => e = .returned (.int .i64 (Lib.indexAny s.data.toList chars.data.toList)) ∧ Below w.heap.size w w') : Sd P f gIa := by
  intro vs h n k r hr
  unfold gIa at hr
  split at hr
  · rename_i l x lc xc
    rw [ble_eq, ble_eq] at hr
    by_cases c1 : l ≤ 1048576
    case neg => simp only [c1, decide_false, cond_false] at hr; cases hr
    by_cases c2 : lc ≤ 1048576
    case neg => simp only [c1, c2, decide_true, decide_false, cond_true, cond_false] at hr; cases hr
    simp only [c1, c2, decide_true, cond_true] at hr
    cases c3 : ascF l x <;> rw [c3] at hr <;> try cases hr
    cases c4 : ascF lc xc <;> rw [c4] at hr <;> try cases hr
    simp only [cond_true] at hr
    have run : ∀ (F : Fx) (ι : Io) (w : World) (us : List Value), HR F ι h n w → RVs ι [V.s l x, .s lc xc] us → ∃ s chars : ByteArray, SRep l x s ∧ SRep lc xc chars ∧ us = [.string s, .string chars] ∧
        (callFunc f us.toArray).run P w = .ok (.enter f us.toArray) w ∧ Calls P f us.toArray w fun e w' => e = .returned (.int .i64 (Lib.indexAny s.data.toList chars.data.toList)) ∧ HR F ι h n w' := fun F ι w us hb hus => by
      obtain ⟨u, r1, rfl, ⟨s, hs1, hs2⟩, u2, r2, rfl, ⟨s', hs3, hs4⟩, h5⟩ := hus
      have h5 : r2 = [] := h5
      subst h5 hs1 hs3
      refine ⟨s, s', hs2, hs4, rfl, callFunc_run hcall _ w, Calls.mono (hf s s' w (by rw [hs2.size]; omega) (by rw [hs4.size]; omega) (ascF_ok _ (by rw [hs2.1, hs2.2]; exact c3)) (ascF_ok _ (by rw [hs4.1, hs4.2]; exact c4))) fun e w' he => ⟨he.1, hb.grown0 ⟨he.2.os, he.2.tape, he.2.output, he.2.size, fun k hk _ => he.2.block k hk⟩⟩⟩
    cases hi : iaF lc xc l x 0 with
    | some i =>
      rw [hi] at hr
      simp only [fN_eq] at hr
      refine ⟨_, h, n, hr, fun F ι w us hb hus => ?_⟩
      obtain ⟨s, cs, hs, hcs, rfl, hrun, hcl⟩ := run F ι w us hb hus
      rw [hrun]
      refine Calls.mono hcl fun e w' he => ?_
      refine ⟨_, he.1, ι, Ext.refl _, he.2, ?_⟩
      rcases iaF_ok cs.data.toList s.data.toList 0 with ⟨h1, h2⟩ | ⟨j, h1, h2⟩
      · rw [hs.1, hs.2, hcs.1, hcs.2, hi] at h1; cases h1
      · rw [hs.1, hs.2, hcs.1, hcs.2, hi] at h1
        have : i = j := by have := Option.some.inj h1; omega
        subst this
        rw [h2]; rfl
    | none =>
      rw [hi] at hr
      refine ⟨_, h, n, hr, fun F ι w us hb hus => ?_⟩
      obtain ⟨s, cs, hs, hcs, rfl, hrun, hcl⟩ := run F ι w us hb hus
      rw [hrun]
      refine Calls.mono hcl fun e w' he => ?_
      refine ⟨_, he.1, ι, Ext.refl _, he.2, ?_⟩
      rcases iaF_ok cs.data.toList s.data.toList 0 with ⟨h1, h2⟩ | ⟨j, h1, h2⟩
      · rw [h2]; rfl
      · rw [hs.1, hs.2, hcs.1, hcs.2, hi] at h1; cases h1
  · cases hr
theorem sd_si (hcall : callable P f = true) (hf : ∀ (s sub : ByteArray) (m : Int) (w : World), s.size < 4294967281 → w.cell? ⟨0, 0, none⟩ = some (.int .i64 m) →
    Calls P f #[.string s, .string sub] w fun e w' => e = .returned (.int .i64 (Lib.index s.data.toList sub.data.toList)) ∧ w' = w) : Sd P f gSi := by
  intro vs h n k r hr
  unfold gSi at hr
  split at hr
  · rename_i l x lc xc
    rw [ble_eq] at hr
    by_cases c1 : l ≤ 1048576
    case neg => simp only [c1, decide_false, cond_false] at hr; cases hr
    simp only [c1, decide_true, cond_true] at hr
    have run : ∀ (F : Fx) (ι : Io) (w : World) (us : List Value), HR F ι h n w → RVs ι [V.s l x, .s lc xc] us → ∃ s chars : ByteArray, SRep l x s ∧ SRep lc xc chars ∧ us = [.string s, .string chars] ∧
        (callFunc f us.toArray).run P w = .ok (.enter f us.toArray) w ∧ Calls P f us.toArray w fun e w' => e = .returned (.int .i64 (Lib.index s.data.toList chars.data.toList)) ∧ HR F ι h n w' := fun F ι w us hb hus => by
      obtain ⟨u, r1, rfl, ⟨s, hs1, hs2⟩, u2, r2, rfl, ⟨s', hs3, hs4⟩, h5⟩ := hus
      have h5 : r2 = [] := h5
      subst h5 hs1 hs3
      obtain ⟨m, hm⟩ := hb.below.gi
      exact ⟨s, s', hs2, hs4, rfl, callFunc_run hcall _ w, Calls.mono (hf s s' m w (by rw [hs2.size]; omega) hm) fun e w' he => ⟨he.1, by rw [he.2]; exact hb⟩⟩
    cases hi : isF lc xc l x 0 with
    | some i =>
      rw [hi] at hr
      simp only [fN_eq] at hr
      refine ⟨_, h, n, hr, fun F ι w us hb hus => ?_⟩
      obtain ⟨s, cs, hs, hcs, rfl, hrun, hcl⟩ := run F ι w us hb hus
      rw [hrun]
      refine Calls.mono hcl fun e w' he => ?_
      refine ⟨_, he.1, ι, Ext.refl _, he.2, ?_⟩
      rcases isF_ok cs.data.toList s.data.toList 0 with ⟨h1, h2⟩ | ⟨j, h1, h2⟩
      · rw [hs.1, hs.2, hcs.1, hcs.2, hi] at h1; cases h1
      · rw [hs.1, hs.2, hcs.1, hcs.2, hi] at h1
        have : i = j := by have := Option.some.inj h1; omega
        subst this
        rw [h2]; rfl
    | none =>
      rw [hi] at hr
      refine ⟨_, h, n, hr, fun F ι w us hb hus => ?_⟩
      obtain ⟨s, cs, hs, hcs, rfl, hrun, hcl⟩ := run F ι w us hb hus
      rw [hrun]
      refine Calls.mono hcl fun e w' he => ?_
      refine ⟨_, he.1, ι, Ext.refl _, he.2, ?_⟩
      rcases isF_ok cs.data.toList s.data.toList 0 with ⟨h1, h2⟩ | ⟨j, h1, h2⟩
      · rw [h2]; rfl
      · rw [hs.1, hs.2, hcs.1, hcs.2, hi] at h1; cases h1
  · cases hr
end
end Go.Proofs.Nw.X
end
section
/- printed by xg.py: seat F's tables. -/
open Go Go.RowKit Go.Proofs
set_option maxRecDepth 100000
namespace Go.Proofs.Nw.X
open Go.Proofs.Nw.K
noncomputable def tx_ld : BT (Nat × Bool) := (.n 197 (1, false) (.n 98 (1, false) (.n 49 (1, false) (.n 24 (3, true) (.n 12 (1, false) (.n 6 (1, false) (.n 3 (1, false) (.n 1 (1, false) (.n 0 (1, false) .e .e) (.n 2 (1, false) .e .e)) (.n 5 (1, false) (.n 4 (1, false) .e .e) .e)) (.n 9 (1, false) (.n 8 (4, true) (.n 7 (4, true) .e .e) .e) (.n 11 (1, false) (.n 10 (1, false) .e .e) .e))) (.n 18 (1, true) (.n 15 (1, false) (.n 14 (2, true) (.n 13 (2, true) .e .e) .e) (.n 17 (1, false) (.n 16 (1, false) .e .e) .e)) (.n 21 (1, false) (.n 20 (1, false) (.n 19 (1, true) .e .e) .e) (.n 23 (3, true) (.n 22 (1, false) .e .e) .e)))) (.n 37 (4, true) (.n 31 (10, true) (.n 28 (1, false) (.n 26 (1, false) (.n 25 (1, false) .e .e) (.n 27 (1, false) .e .e)) (.n 30 (1, false) (.n 29 (1, false) .e .e) .e)) (.n 34 (1, false) (.n 33 (1, false) (.n 32 (10, true) .e .e) .e) (.n 36 (4, true) (.n 35 (1, false) .e .e) .e))) (.n 43 (1, false) (.n 40 (1, false) (.n 39 (1, false) (.n 38 (1, false) .e .e) .e) (.n 42 (1, false) (.n 41 (1, false) .e .e) .e)) (.n 46 (1, false) (.n 45 (1, false) (.n 44 (1, false) .e .e) .e) (.n 48 (1, false) (.n 47 (1, false) .e .e) .e))))) (.n 74 (1, false) (.n 62 (2, true) (.n 56 (2, true) (.n 53 (1, false) (.n 51 (8, true) (.n 50 (8, true) .e .e) (.n 52 (1, false) .e .e)) (.n 55 (1, false) (.n 54 (1, false) .e .e) .e)) (.n 59 (1, false) (.n 58 (1, false) (.n 57 (2, true) .e .e) .e) (.n 61 (1, false) (.n 60 (1, false) .e .e) .e))) (.n 68 (1, false) (.n 65 (4, true) (.n 64 (1, false) (.n 63 (2, true) .e .e) .e) (.n 67 (1, false) (.n 66 (4, true) .e .e) .e)) (.n 71 (1, false) (.n 70 (11, true) (.n 69 (11, true) .e .e) .e) (.n 73 (1, false) (.n 72 (1, false) .e .e) .e)))) (.n 86 (2, true) (.n 80 (3, true) (.n 77 (1, false) (.n 76 (1, false) (.n 75 (1, false) .e .e) .e) (.n 79 (1, false) (.n 78 (1, false) .e .e) .e)) (.n 83 (1, false) (.n 82 (1, false) (.n 81 (3, true) .e .e) .e) (.n 85 (1, false) (.n 84 (1, false) .e .e) .e))) (.n 92 (1, false) (.n 89 (1, false) (.n 88 (1, false) (.n 87 (2, true) .e .e) .e) (.n 91 (1, false) (.n 90 (1, false) .e .e) .e)) (.n 95 (1, false) (.n 94 (1, false) (.n 93 (1, false) .e .e) .e) (.n 97 (1, false) (.n 96 (1, false) .e .e) .e)))))) (.n 148 (1, false) (.n 123 (11, true) (.n 111 (1, false) (.n 105 (1, false) (.n 102 (7, true) (.n 100 (1, false) (.n 99 (1, false) .e .e) (.n 101 (7, true) .e .e)) (.n 104 (1, false) (.n 103 (1, false) .e .e) .e)) (.n 108 (1, false) (.n 107 (1, false) (.n 106 (1, false) .e .e) .e) (.n 110 (1, false) (.n 109 (1, false) .e .e) .e))) (.n 117 (1, false) (.n 114 (1, false) (.n 113 (1, false) (.n 112 (1, false) .e .e) .e) (.n 116 (1, false) (.n 115 (1, false) .e .e) .e)) (.n 120 (1, false) (.n 119 (1, true) (.n 118 (1, true) .e .e) .e) (.n 122 (2, true) (.n 121 (2, true) .e .e) .e)))) (.n 136 (1, false) (.n 130 (1, false) (.n 127 (1, false) (.n 125 (1, false) (.n 124 (11, true) .e .e) (.n 126 (1, false) .e .e)) (.n 129 (1, false) (.n 128 (1, false) .e .e) .e)) (.n 133 (1, false) (.n 132 (1, false) (.n 131 (1, false) .e .e) .e) (.n 135 (1, false) (.n 134 (1, false) .e .e) .e))) (.n 142 (1, false) (.n 139 (1, false) (.n 138 (1, false) (.n 137 (1, false) .e .e) .e) (.n 141 (1, false) (.n 140 (1, false) .e .e) .e)) (.n 145 (1, false) (.n 144 (1, false) (.n 143 (1, false) .e .e) .e) (.n 147 (1, false) (.n 146 (1, false) .e .e) .e))))) (.n 173 (1, false) (.n 161 (4, true) (.n 155 (1, false) (.n 152 (1, false) (.n 150 (1, false) (.n 149 (1, false) .e .e) (.n 151 (1, false) .e .e)) (.n 154 (1, false) (.n 153 (1, false) .e .e) .e)) (.n 158 (1, false) (.n 157 (1, false) (.n 156 (1, false) .e .e) .e) (.n 160 (1, false) (.n 159 (1, false) .e .e) .e))) (.n 167 (1, false) (.n 164 (1, false) (.n 163 (1, false) (.n 162 (4, true) .e .e) .e) (.n 166 (2, true) (.n 165 (2, true) .e .e) .e)) (.n 170 (1, false) (.n 169 (1, false) (.n 168 (1, false) .e .e) .e) (.n 172 (1, false) (.n 171 (1, false) .e .e) .e)))) (.n 185 (1, false) (.n 179 (1, false) (.n 176 (1, false) (.n 175 (1, false) (.n 174 (1, false) .e .e) .e) (.n 178 (1, false) (.n 177 (1, false) .e .e) .e)) (.n 182 (1, false) (.n 181 (1, false) (.n 180 (1, false) .e .e) .e) (.n 184 (1, false) (.n 183 (1, false) .e .e) .e))) (.n 191 (1, false) (.n 188 (1, false) (.n 187 (1, false) (.n 186 (1, false) .e .e) .e) (.n 190 (1, false) (.n 189 (1, false) .e .e) .e)) (.n 194 (1, false) (.n 193 (1, false) (.n 192 (1, false) .e .e) .e) (.n 196 (1, false) (.n 195 (1, false) .e .e) .e))))))) (.n 296 (1, false) (.n 247 (1, false) (.n 222 (5, true) (.n 210 (3, true) (.n 204 (1, false) (.n 201 (1, false) (.n 199 (1, false) (.n 198 (1, false) .e .e) (.n 200 (1, false) .e .e)) (.n 203 (2, true) (.n 202 (2, true) .e .e) .e)) (.n 207 (1, false) (.n 206 (1, false) (.n 205 (1, false) .e .e) .e) (.n 209 (3, true) (.n 208 (1, false) .e .e) .e))) (.n 216 (1, false) (.n 213 (2, true) (.n 212 (1, false) (.n 211 (1, false) .e .e) .e) (.n 215 (1, false) (.n 214 (2, true) .e .e) .e)) (.n 219 (3, true) (.n 218 (3, true) (.n 217 (1, false) .e .e) .e) (.n 221 (5, true) (.n 220 (1, false) .e .e) .e)))) (.n 235 (1, false) (.n 229 (1, false) (.n 226 (1, false) (.n 224 (1, false) (.n 223 (1, false) .e .e) (.n 225 (1, false) .e .e)) (.n 228 (1, false) (.n 227 (1, false) .e .e) .e)) (.n 232 (1, false) (.n 231 (1, false) (.n 230 (1, false) .e .e) .e) (.n 234 (1, false) (.n 233 (1, false) .e .e) .e))) (.n 241 (1, false) (.n 238 (1, false) (.n 237 (1, false) (.n 236 (1, false) .e .e) .e) (.n 240 (1, false) (.n 239 (1, false) .e .e) .e)) (.n 244 (1, false) (.n 243 (1, false) (.n 242 (1, false) .e .e) .e) (.n 246 (1, false) (.n 245 (1, false) .e .e) .e))))) (.n 272 (1, false) (.n 260 (1, false) (.n 254 (1, false) (.n 251 (1, false) (.n 249 (4, true) (.n 248 (1, false) .e .e) (.n 250 (4, true) .e .e)) (.n 253 (1, false) (.n 252 (1, false) .e .e) .e)) (.n 257 (1, false) (.n 256 (1, false) (.n 255 (1, false) .e .e) .e) (.n 259 (1, false) (.n 258 (1, false) .e .e) .e))) (.n 266 (1, false) (.n 263 (1, false) (.n 262 (1, false) (.n 261 (1, false) .e .e) .e) (.n 265 (1, false) (.n 264 (1, false) .e .e) .e)) (.n 269 (1, false) (.n 268 (1, false) (.n 267 (1, false) .e .e) .e) (.n 271 (1, false) (.n 270 (1, false) .e .e) .e)))) (.n 284 (1, false) (.n 278 (1, false) (.n 275 (1, false) (.n 274 (2, true) (.n 273 (2, true) .e .e) .e) (.n 277 (1, false) (.n 276 (1, false) .e .e) .e)) (.n 281 (1, false) (.n 280 (1, false) (.n 279 (1, false) .e .e) .e) (.n 283 (1, false) (.n 282 (1, false) .e .e) .e))) (.n 290 (1, false) (.n 287 (1, false) (.n 286 (1, false) (.n 285 (1, false) .e .e) .e) (.n 289 (1, false) (.n 288 (1, false) .e .e) .e)) (.n 293 (256, true) (.n 292 (256, true) (.n 291 (1, false) .e .e) .e) (.n 295 (1, false) (.n 294 (1, false) .e .e) .e)))))) (.n 345 (1, false) (.n 321 (1, false) (.n 309 (1, false) (.n 303 (2, true) (.n 300 (1, false) (.n 298 (1, false) (.n 297 (1, false) .e .e) (.n 299 (1, false) .e .e)) (.n 302 (1, false) (.n 301 (1, false) .e .e) .e)) (.n 306 (1, false) (.n 305 (1, false) (.n 304 (1, false) .e .e) .e) (.n 308 (1, false) (.n 307 (1, false) .e .e) .e))) (.n 315 (1, false) (.n 312 (1, false) (.n 311 (1, false) (.n 310 (1, false) .e .e) .e) (.n 314 (2, true) (.n 313 (2, true) .e .e) .e)) (.n 318 (1, false) (.n 317 (1, false) (.n 316 (1, false) .e .e) .e) (.n 320 (1, false) (.n 319 (1, false) .e .e) .e)))) (.n 333 (2, true) (.n 327 (5, true) (.n 324 (1, false) (.n 323 (1, false) (.n 322 (1, false) .e .e) .e) (.n 326 (5, true) (.n 325 (1, false) .e .e) .e)) (.n 330 (1, false) (.n 329 (1, false) (.n 328 (1, false) .e .e) .e) (.n 332 (2, true) (.n 331 (2, true) .e .e) .e))) (.n 339 (1, false) (.n 336 (1, false) (.n 335 (1, false) (.n 334 (2, true) .e .e) .e) (.n 338 (1, false) (.n 337 (1, false) .e .e) .e)) (.n 342 (1, false) (.n 341 (1, false) (.n 340 (1, false) .e .e) .e) (.n 344 (1, false) (.n 343 (1, false) .e .e) .e))))) (.n 370 (1, false) (.n 358 (1, false) (.n 352 (1, false) (.n 349 (1, false) (.n 347 (1, false) (.n 346 (1, false) .e .e) (.n 348 (1, false) .e .e)) (.n 351 (1, false) (.n 350 (1, false) .e .e) .e)) (.n 355 (1, false) (.n 354 (1, false) (.n 353 (1, false) .e .e) .e) (.n 357 (1, false) (.n 356 (1, false) .e .e) .e))) (.n 364 (1, false) (.n 361 (1, false) (.n 360 (1, false) (.n 359 (1, false) .e .e) .e) (.n 363 (1, false) (.n 362 (1, false) .e .e) .e)) (.n 367 (1, false) (.n 366 (1, false) (.n 365 (1, false) .e .e) .e) (.n 369 (1, false) (.n 368 (1, false) .e .e) .e)))) (.n 382 (4, true) (.n 376 (1, false) (.n 373 (2, true) (.n 372 (2, true) (.n 371 (256, true) .e .e) .e) (.n 375 (1, false) (.n 374 (32, true) .e .e) .e)) (.n 379 (1, false) (.n 378 (1, false) (.n 377 (1, false) .e .e) .e) (.n 381 (4, true) (.n 380 (1, false) .e .e) .e))) (.n 388 (1, false) (.n 385 (0, true) (.n 384 (0, true) (.n 383 (0, true) .e .e) .e) (.n 387 (1, false) (.n 386 (1, false) .e .e) .e)) (.n 391 (11, true) (.n 390 (1, false) (.n 389 (1, false) .e .e) .e) (.n 393 (1, false) (.n 392 (11, true) .e .e) .e))))))))
noncomputable def tx_fo : BT (List (Nat × Nat)) := (.n 124 [(0, 0), (1, 10)] (.n 62 [(0, 0), (1, 1)] (.n 31 [(0, 0), (1, 3), (2, 4), (3, 5), (4, 6), (5, 7), (6, 8), (7, 9)] (.n 18 [(0, 0)] (.n 13 [(0, 0), (1, 1)] (.n 8 [(0, 0), (1, 1), (2, 2), (3, 3)] (.n 7 [(0, 0), (1, 1), (2, 2), (3, 3)] .e .e) .e) (.n 14 [(0, 0), (1, 1)] .e .e)) (.n 23 [(0, 0), (1, 1), (2, 2)] (.n 19 [(0, 0)] .e .e) (.n 24 [(0, 0), (1, 1), (2, 2)] .e .e))) (.n 50 [(0, 0), (1, 1), (2, 2), (3, 3), (4, 4), (5, 5), (6, 6), (7, 7)] (.n 36 [(0, 0), (1, 3)] (.n 32 [(0, 0), (1, 3), (2, 4), (3, 5), (4, 6), (5, 7), (6, 8), (7, 9)] .e .e) (.n 37 [(0, 0), (1, 3)] .e .e)) (.n 56 [(0, 0), (1, 1)] (.n 51 [(0, 0), (1, 1), (2, 2), (3, 3), (4, 4), (5, 5), (6, 6), (7, 7)] .e .e) (.n 57 [(0, 0), (1, 1)] .e .e)))) (.n 87 [(0, 0), (1, 1)] (.n 70 [(0, 0), (1, 1), (2, 2), (3, 10)] (.n 66 [(0, 0), (1, 3)] (.n 65 [(0, 0), (1, 3)] (.n 63 [(0, 0), (1, 1)] .e .e) .e) (.n 69 [(0, 0), (1, 1), (2, 2), (3, 10)] .e .e)) (.n 81 [(0, 0), (1, 1), (2, 2)] (.n 80 [(0, 0), (1, 1), (2, 2)] .e .e) (.n 86 [(0, 0), (1, 1)] .e .e))) (.n 119 [(0, 0)] (.n 102 [(0, 0), (1, 1), (2, 2), (3, 3), (4, 4), (5, 5), (6, 6)] (.n 101 [(0, 0), (1, 1), (2, 2), (3, 3), (4, 4), (5, 5), (6, 6)] .e .e) (.n 118 [(0, 0)] .e .e)) (.n 122 [(0, 0), (1, 1)] (.n 121 [(0, 0), (1, 1)] .e .e) (.n 123 [(0, 0), (1, 10)] .e .e))))) (.n 273 [(0, 0), (1, 1)] (.n 213 [(0, 0), (1, 1)] (.n 202 [(0, 0), (1, 1)] (.n 165 [(0, 0), (1, 1)] (.n 162 [(0, 0), (1, 1), (2, 2), (3, 3)] (.n 161 [(0, 0), (1, 1), (2, 2), (3, 3)] .e .e) .e) (.n 166 [(0, 0), (1, 1)] .e .e)) (.n 209 [(0, 0), (1, 1), (2, 2)] (.n 203 [(0, 0), (1, 1)] .e .e) (.n 210 [(0, 0), (1, 1), (2, 2)] .e .e))) (.n 221 [(0, 0), (1, 1), (2, 2), (3, 3), (4, 4)] (.n 218 [(0, 0), (1, 1), (2, 2)] (.n 214 [(0, 0), (1, 1)] .e .e) (.n 219 [(0, 0), (1, 1), (2, 2)] .e .e)) (.n 249 [(0, 0), (1, 1), (2, 2), (3, 3)] (.n 222 [(0, 0), (1, 1), (2, 2), (3, 3), (4, 4)] .e .e) (.n 250 [(0, 0), (1, 1), (2, 2), (3, 3)] .e .e)))) (.n 333 [(0, 0), (1, 1)] (.n 326 [(0, 0), (1, 1), (2, 2), (3, 3), (4, 4)] (.n 313 [(0, 0), (1, 1)] (.n 303 [(0, 0), (1, 1)] (.n 274 [(0, 0), (1, 1)] .e .e) .e) (.n 314 [(0, 0), (1, 1)] .e .e)) (.n 331 [(0, 0), (1, 1)] (.n 327 [(0, 0), (1, 1), (2, 2), (3, 3), (4, 4)] .e .e) (.n 332 [(0, 0), (1, 1)] .e .e))) (.n 381 [(0, 0), (1, 1), (2, 2), (3, 3)] (.n 372 [(0, 0), (1, 1)] (.n 334 [(0, 0), (1, 1)] .e .e) (.n 373 [(0, 0), (1, 1)] .e .e)) (.n 391 [(0, 0), (1, 1), (2, 2), (3, 3), (4, 4), (5, 5), (6, 6), (7, 7), (8, 8), (9, 9), (10, 10)] (.n 382 [(0, 0), (1, 1), (2, 2), (3, 3)] .e .e) (.n 392 [(0, 0), (1, 1), (2, 2), (3, 3), (4, 4), (5, 5), (6, 6), (7, 7), (8, 8), (9, 9), (10, 10)] .e .e))))))
noncomputable def tx_el : BT (Nat × Nat) := (.n 149 (3, 1) (.n 64 (70, 11) (.n 30 (51, 8) (.n 29 (57, 2) (.n 28 (37, 4) .e .e) .e) (.n 49 (63, 2) (.n 41 (32, 10) .e .e) .e)) (.n 79 (24, 3) (.n 73 (5, 1) (.n 71 (9, 1) .e .e) .e) (.n 114 (162, 4) (.n 100 (132, 1) .e .e) .e))) (.n 205 (210, 3) (.n 160 (303, 2) (.n 155 (222, 5) (.n 151 (203, 2) .e .e) .e) (.n 185 (250, 4) (.n 164 (149, 1) .e .e) .e)) (.n 323 (334, 2) (.n 278 (169, 1) (.n 224 (3, 1) .e .e) .e) (.n 328 (327, 5) .e .e))))
noncomputable def tx_ap : BT (Nat × Nat × Nat) := (.n 149 (3, 1, 8) (.n 64 (70, 11, 152) (.n 30 (51, 8, 128) (.n 29 (57, 2, 32) (.n 28 (37, 4, 64) .e .e) .e) (.n 49 (63, 2, 32) (.n 41 (32, 10, 184) .e .e) .e)) (.n 79 (24, 3, 48) (.n 73 (5, 1, 1) (.n 71 (9, 1, 16) .e .e) .e) (.n 114 (162, 4, 64) (.n 100 (132, 1, 16) .e .e) .e))) (.n 205 (210, 3, 24) (.n 160 (303, 2, 32) (.n 155 (222, 5, 72) (.n 151 (203, 2, 24) .e .e) .e) (.n 185 (250, 4, 40) (.n 164 (149, 1, 24) .e .e) .e)) (.n 323 (334, 2, 24) (.n 278 (169, 1, 8) (.n 224 (3, 1, 8) .e .e) .e) (.n 328 (327, 5, 80) .e .e))))
noncomputable def tx_kd : BT (TK) := (.n 100 (.slice 132) (.n 22 (.int .u64) (.n 9 .str (.n 4 .bool (.n 3 (.int .i64) (.n 2 (.int .i64) .e .e) .e) (.n 6 (.int .u8) (.n 5 (.int .u8) .e .e) .e)) (.n 12 (.int .u64) (.n 11 .str (.n 10 .str .e .e) .e) (.n 21 (.int .i32) .e .e))) (.n 49 (.slice 63) (.n 30 (.slice 51) (.n 29 (.slice 57) (.n 28 (.slice 37) .e .e) .e) (.n 41 (.slice 32) (.n 33 (.int .i64) .e .e) .e)) (.n 73 (.slice 5) (.n 71 (.slice 9) (.n 64 (.slice 70) .e .e) .e) (.n 79 (.slice 24) .e .e)))) (.n 195 (.int .u64) (.n 151 (.slice 203) (.n 146 (.int .u32) (.n 138 (.int .i64) (.n 114 (.slice 162) .e .e) .e) (.n 149 (.slice 3) (.n 148 (.int .u64) .e .e) .e)) (.n 164 (.slice 149) (.n 160 (.slice 303) (.n 155 (.slice 222) .e .e) .e) (.n 185 (.slice 250) .e .e))) (.n 328 (.slice 327) (.n 278 (.slice 169) (.n 224 (.slice 3) (.n 205 (.slice 210) .e .e) .e) (.n 323 (.slice 334) .e .e)) (.n 389 (.int .i32) (.n 387 (.int .u8) (.n 386 (.int .u8) .e .e) .e) (.n 390 (.int .i32) .e .e)))))
noncomputable def tx_zd : BT (List D) := (.n 198 [.sc .nilFunc] (.n 99 [.sc (.map none)] (.n 50 [.sc (.string ⟨#[]⟩), .sc (.string ⟨#[]⟩), .sc (.string ⟨#[]⟩), .sc (.string ⟨#[]⟩), .sc (.string ⟨#[]⟩), .sc (.string ⟨#[]⟩), .sc (.bool false), .nils] (.n 23 [.sc (.string ⟨#[]⟩), .sc (.string ⟨#[]⟩), .sc (.string ⟨#[]⟩)] (.n 12 [.sc (.int .u64 (0))] (.n 6 [.sc (.int .u8 (0))] (.n 3 [.sc (.int .i64 (0))] (.n 2 [.sc (.int .i64 (0))] (.n 1 [.sc .nilFunc] .e .e) .e) (.n 5 [.sc (.int .u8 (0))] (.n 4 [.sc (.bool false)] .e .e) .e)) (.n 9 [.sc (.string ⟨#[]⟩)] (.n 8 [.sc (.int .i64 (0)), .sc (.int .i64 (0)), .sc (.bool false), .sc (.int .u8 (0))] (.n 7 [.sc (.int .i64 (0)), .sc (.int .i64 (0)), .sc (.bool false), .sc (.int .u8 (0))] .e .e) .e) (.n 11 [.sc (.string ⟨#[]⟩)] (.n 10 [.sc (.string ⟨#[]⟩)] .e .e) .e))) (.n 18 [.sc (.pointer none)] (.n 15 [.sc (.pointer none)] (.n 14 [.sc (.string ⟨#[]⟩), .sc (.int .u64 (0))] (.n 13 [.sc (.string ⟨#[]⟩), .sc (.int .u64 (0))] .e .e) .e) (.n 17 [.sc (.pointer none)] (.n 16 [.sc (.pointer none)] .e .e) .e)) (.n 21 [.sc (.int .i32 (0))] (.n 20 [.sc .nilIface] (.n 19 [.sc (.pointer none)] .e .e) .e) (.n 22 [.sc (.int .u64 (0))] .e .e)))) (.n 36 [.sc (.string ⟨#[]⟩), .sc (.string ⟨#[]⟩), .sc (.string ⟨#[]⟩), .sc (.string ⟨#[]⟩)] (.n 29 [.nils] (.n 26 [.sc .nilFunc] (.n 25 [.sc .nilFunc] (.n 24 [.sc (.string ⟨#[]⟩), .sc (.string ⟨#[]⟩), .sc (.string ⟨#[]⟩)] .e .e) .e) (.n 28 [.nils] (.n 27 [.sc (.pointer none)] .e .e) .e)) (.n 32 [.sc (.string ⟨#[]⟩), .sc (.string ⟨#[]⟩), .sc (.string ⟨#[]⟩), .sc (.string ⟨#[]⟩), .sc (.string ⟨#[]⟩), .sc (.string ⟨#[]⟩), .sc (.string ⟨#[]⟩), .nils, .nils, .nils] (.n 31 [.sc (.string ⟨#[]⟩), .sc (.string ⟨#[]⟩), .sc (.string ⟨#[]⟩), .sc (.string ⟨#[]⟩), .sc (.string ⟨#[]⟩), .sc (.string ⟨#[]⟩), .sc (.string ⟨#[]⟩), .nils, .nils, .nils] (.n 30 [.nils] .e .e) .e) (.n 35 [.sc .nilFunc] (.n 33 [.sc (.int .i64 (0))] .e .e) .e))) (.n 44 [.sc .nilFunc] (.n 40 [.sc .nilFunc] (.n 39 [.sc .nilFunc] (.n 37 [.sc (.string ⟨#[]⟩), .sc (.string ⟨#[]⟩), .sc (.string ⟨#[]⟩), .sc (.string ⟨#[]⟩)] .e .e) .e) (.n 43 [.sc .nilFunc] (.n 41 [.nils] .e .e) .e)) (.n 48 [.sc .nilFunc] (.n 47 [.sc .nilFunc] (.n 45 [.sc .nilFunc] .e .e) .e) (.n 49 [.nils] .e .e))))) (.n 75 [.sc .nilFunc] (.n 63 [.sc (.string ⟨#[]⟩), .sc (.string ⟨#[]⟩)] (.n 57 [.sc (.string ⟨#[]⟩), .sc (.string ⟨#[]⟩)] (.n 54 [.sc .nilFunc] (.n 52 [.sc (.pointer none)] (.n 51 [.sc (.string ⟨#[]⟩), .sc (.string ⟨#[]⟩), .sc (.string ⟨#[]⟩), .sc (.string ⟨#[]⟩), .sc (.string ⟨#[]⟩), .sc (.string ⟨#[]⟩), .sc (.bool false), .nils] .e .e) .e) (.n 56 [.sc (.string ⟨#[]⟩), .sc (.string ⟨#[]⟩)] (.n 55 [.sc .nilFunc] .e .e) .e)) (.n 60 [.sc .nilFunc] (.n 59 [.sc .nilFunc] (.n 58 [.sc .nilFunc] .e .e) .e) (.n 62 [.sc (.string ⟨#[]⟩), .sc (.string ⟨#[]⟩)] (.n 61 [.sc .nilFunc] .e .e) .e))) (.n 70 [.sc (.int .i64 (0)), .sc (.int .i64 (0)), .sc (.string ⟨#[]⟩), .sc (.string ⟨#[]⟩), .sc (.string ⟨#[]⟩), .sc (.string ⟨#[]⟩), .sc (.string ⟨#[]⟩), .sc (.string ⟨#[]⟩), .sc (.bool false), .nils, .sc (.int .i64 (0))] (.n 66 [.sc (.string ⟨#[]⟩), .sc (.string ⟨#[]⟩), .sc (.string ⟨#[]⟩), .nils] (.n 65 [.sc (.string ⟨#[]⟩), .sc (.string ⟨#[]⟩), .sc (.string ⟨#[]⟩), .nils] (.n 64 [.nils] .e .e) .e) (.n 69 [.sc (.int .i64 (0)), .sc (.int .i64 (0)), .sc (.string ⟨#[]⟩), .sc (.string ⟨#[]⟩), .sc (.string ⟨#[]⟩), .sc (.string ⟨#[]⟩), .sc (.string ⟨#[]⟩), .sc (.string ⟨#[]⟩), .sc (.bool false), .nils, .sc (.int .i64 (0))] (.n 68 [.sc .nilFunc] .e .e) .e)) (.n 73 [.nils] (.n 72 [.sc .nilFunc] (.n 71 [.nils] .e .e) .e) (.n 74 [.sc .nilFunc] .e .e)))) (.n 87 [.sc (.string ⟨#[]⟩), .sc (.string ⟨#[]⟩)] (.n 81 [.sc (.map none), .sc (.map none), .nils] (.n 78 [.sc (.map none)] (.n 77 [.sc (.map none)] (.n 76 [.sc .nilFunc] .e .e) .e) (.n 80 [.sc (.map none), .sc (.map none), .nils] (.n 79 [.nils] .e .e) .e)) (.n 84 [.sc .nilFunc] (.n 83 [.sc .nilFunc] (.n 82 [.sc .nilFunc] .e .e) .e) (.n 86 [.sc (.string ⟨#[]⟩), .sc (.string ⟨#[]⟩)] .e .e))) (.n 94 [.sc (.pointer none)] (.n 90 [.sc .nilFunc] (.n 89 [.sc .nilFunc] (.n 88 [.sc .nilFunc] .e .e) .e) (.n 93 [.sc .nilFunc] (.n 91 [.sc .nilFunc] .e .e) .e)) (.n 97 [.sc (.pointer none)] (.n 96 [.sc .nilFunc] (.n 95 [.sc .nilFunc] .e .e) .e) (.n 98 [.sc .nilFunc] .e .e)))))) (.n 149 [.nils] (.n 123 [.sc (.string ⟨#[]⟩), .sc (.string ⟨#[]⟩), .sc (.string ⟨#[]⟩), .sc (.string ⟨#[]⟩), .sc (.string ⟨#[]⟩), .sc (.string ⟨#[]⟩), .sc (.string ⟨#[]⟩), .nils, .nils, .nils, .sc (.int .i64 (0))] (.n 111 [.sc .nilFunc] (.n 105 [.sc .nilFunc] (.n 102 [.sc (.pointer none), .sc (.pointer none), .nils, .sc (.string ⟨#[]⟩), .nils, .sc (.map none), .nils] (.n 101 [.sc (.pointer none), .sc (.pointer none), .nils, .sc (.string ⟨#[]⟩), .nils, .sc (.map none), .nils] (.n 100 [.nils] .e .e) .e) (.n 104 [.sc .nilFunc] (.n 103 [.sc .nilFunc] .e .e) .e)) (.n 108 [.sc .nilFunc] (.n 107 [.sc .nilFunc] (.n 106 [.sc .nilFunc] .e .e) .e) (.n 110 [.sc .nilFunc] (.n 109 [.sc .nilFunc] .e .e) .e))) (.n 118 [.nils] (.n 114 [.nils] (.n 113 [.sc .nilFunc] (.n 112 [.sc .nilFunc] .e .e) .e) (.n 117 [.sc .nilFunc] (.n 116 [.sc .nilFunc] .e .e) .e)) (.n 121 [.sc (.pointer none), .sc (.map none)] (.n 120 [.sc (.map none)] (.n 119 [.nils] .e .e) .e) (.n 122 [.sc (.pointer none), .sc (.map none)] .e .e)))) (.n 136 [.sc .nilFunc] (.n 130 [.sc .nilFunc] (.n 127 [.sc .nilFunc] (.n 126 [.sc .nilFunc] (.n 124 [.sc (.string ⟨#[]⟩), .sc (.string ⟨#[]⟩), .sc (.string ⟨#[]⟩), .sc (.string ⟨#[]⟩), .sc (.string ⟨#[]⟩), .sc (.string ⟨#[]⟩), .sc (.string ⟨#[]⟩), .nils, .nils, .nils, .sc (.int .i64 (0))] .e .e) .e) (.n 129 [.sc .nilFunc] (.n 128 [.sc .nilFunc] .e .e) .e)) (.n 133 [.sc .nilFunc] (.n 132 [.sc (.complex .f64 0 0)] (.n 131 [.sc .nilFunc] .e .e) .e) (.n 135 [.sc .nilFunc] .e .e))) (.n 144 [.sc .nilFunc] (.n 140 [.sc .nilFunc] (.n 138 [.sc (.int .i64 (0))] (.n 137 [.sc .nilFunc] .e .e) .e) (.n 142 [.sc .nilFunc] (.n 141 [.sc .nilFunc] .e .e) .e)) (.n 147 [.sc .nilFunc] (.n 146 [.sc (.int .u32 (0))] (.n 145 [.sc .nilFunc] .e .e) .e) (.n 148 [.sc (.int .u64 (0))] .e .e))))) (.n 173 [.sc (.pointer none)] (.n 162 [.sc (.int .i64 (0)), .sc (.string ⟨#[]⟩), .sc (.string ⟨#[]⟩), .nils] (.n 155 [.nils] (.n 152 [.sc .nilFunc] (.n 151 [.nils] (.n 150 [.sc .nilFunc] .e .e) .e) (.n 154 [.sc .nilFunc] (.n 153 [.sc .nilFunc] .e .e) .e)) (.n 159 [.sc .nilFunc] (.n 158 [.sc .nilFunc] (.n 157 [.sc .nilFunc] .e .e) .e) (.n 161 [.sc (.int .i64 (0)), .sc (.string ⟨#[]⟩), .sc (.string ⟨#[]⟩), .nils] (.n 160 [.nils] .e .e) .e))) (.n 168 [.sc .nilFunc] (.n 165 [.nils, .nils] (.n 164 [.nils] (.n 163 [.sc (.pointer none)] .e .e) .e) (.n 167 [.sc .nilFunc] (.n 166 [.nils, .nils] .e .e) .e)) (.n 171 [.sc (.pointer none)] (.n 170 [.sc .nilFunc] (.n 169 [.sc (.pointer none)] .e .e) .e) (.n 172 [.sc .nilFunc] .e .e)))) (.n 187 [.sc .nilFunc] (.n 181 [.sc .nilFunc] (.n 176 [.sc (.map none)] (.n 175 [.sc (.pointer none)] (.n 174 [.sc .nilFunc] .e .e) .e) (.n 178 [.sc .nilFunc] (.n 177 [.sc (.map none)] .e .e) .e)) (.n 184 [.sc .nilFunc] (.n 183 [.sc .nilFunc] (.n 182 [.sc .nilFunc] .e .e) .e) (.n 185 [.nils] .e .e))) (.n 193 [.sc .nilFunc] (.n 190 [.sc .nilFunc] (.n 189 [.sc .nilFunc] (.n 188 [.sc .nilFunc] .e .e) .e) (.n 192 [.sc .nilFunc] (.n 191 [.sc (.float .f64 0)] .e .e) .e)) (.n 196 [.sc .nilFunc] (.n 195 [.sc (.int .u64 (0))] (.n 194 [.sc .nilFunc] .e .e) .e) (.n 197 [.sc .nilFunc] .e .e))))))) (.n 299 [.sc .nilFunc] (.n 248 [.sc .nilFunc] (.n 221 [.sc (.int .i64 (0)), .sc (.string ⟨#[]⟩), .sc (.string ⟨#[]⟩), .nils, .sc (.bool false)] (.n 210 [.sc (.string ⟨#[]⟩), .sc (.bool false), .sc (.bool false)] (.n 204 [.sc .nilFunc] (.n 201 [.sc .nilFunc] (.n 200 [.sc .nilFunc] (.n 199 [.sc (.pointer none)] .e .e) .e) (.n 203 [.sc (.int .i64 (0)), .sc (.string ⟨#[]⟩)] (.n 202 [.sc (.int .i64 (0)), .sc (.string ⟨#[]⟩)] .e .e) .e)) (.n 207 [.sc .nilFunc] (.n 206 [.sc .nilFunc] (.n 205 [.nils] .e .e) .e) (.n 209 [.sc (.string ⟨#[]⟩), .sc (.bool false), .sc (.bool false)] (.n 208 [.sc .nilFunc] .e .e) .e))) (.n 216 [.sc (.pointer none)] (.n 213 [.sc (.string ⟨#[]⟩), .nils] (.n 212 [.sc (.pointer none)] (.n 211 [.sc .nilFunc] .e .e) .e) (.n 215 [.sc .nilFunc] (.n 214 [.sc (.string ⟨#[]⟩), .nils] .e .e) .e)) (.n 219 [.nils, .nils, .sc (.map none)] (.n 218 [.nils, .nils, .sc (.map none)] (.n 217 [.sc (.map none)] .e .e) .e) (.n 220 [.sc .nilFunc] .e .e)))) (.n 235 [.sc (.pointer none)] (.n 228 [.sc .nilFunc] (.n 224 [.nils] (.n 223 [.sc .nilFunc] (.n 222 [.sc (.int .i64 (0)), .sc (.string ⟨#[]⟩), .sc (.string ⟨#[]⟩), .nils, .sc (.bool false)] .e .e) .e) (.n 227 [.sc (.map none)] (.n 226 [.sc .nilFunc] .e .e) .e)) (.n 232 [.sc .nilFunc] (.n 231 [.sc .nilFunc] (.n 230 [.sc .nilFunc] .e .e) .e) (.n 234 [.sc .nilFunc] (.n 233 [.sc (.pointer none)] .e .e) .e))) (.n 242 [.sc .nilFunc] (.n 238 [.sc (.pointer none)] (.n 237 [.sc .nilFunc] (.n 236 [.sc .nilFunc] .e .e) .e) (.n 240 [.sc .nilFunc] (.n 239 [.sc .nilFunc] .e .e) .e)) (.n 246 [.sc .nilFunc] (.n 245 [.sc .nilFunc] (.n 243 [.sc .nilFunc] .e .e) .e) (.n 247 [.sc .nilFunc] .e .e))))) (.n 273 [.sc (.map none), .sc (.map none)] (.n 261 [.sc (.pointer none)] (.n 255 [.sc .nilFunc] (.n 252 [.sc .nilFunc] (.n 250 [.sc (.string ⟨#[]⟩), .sc (.string ⟨#[]⟩), .sc (.bool false), .sc (.bool false)] (.n 249 [.sc (.string ⟨#[]⟩), .sc (.string ⟨#[]⟩), .sc (.bool false), .sc (.bool false)] .e .e) .e) (.n 254 [.sc .nilFunc] (.n 253 [.sc .nilFunc] .e .e) .e)) (.n 258 [.sc .nilFunc] (.n 257 [.sc .nilFunc] (.n 256 [.sc .nilFunc] .e .e) .e) (.n 260 [.sc .nilFunc] (.n 259 [.sc .nilFunc] .e .e) .e))) (.n 268 [.sc .nilFunc] (.n 265 [.sc (.pointer none)] (.n 264 [.sc .nilFunc] (.n 263 [.sc .nilFunc] .e .e) .e) (.n 267 [.sc .nilFunc] (.n 266 [.sc .nilFunc] .e .e) .e)) (.n 271 [.sc (.map none)] (.n 270 [.sc .nilFunc] (.n 269 [.sc .nilFunc] .e .e) .e) (.n 272 [.sc (.map none)] .e .e)))) (.n 286 [.sc .nilFunc] (.n 280 [.sc .nilFunc] (.n 276 [.sc .nilFunc] (.n 275 [.sc .nilFunc] (.n 274 [.sc (.map none), .sc (.map none)] .e .e) .e) (.n 278 [.nils] (.n 277 [.sc .nilFunc] .e .e) .e)) (.n 284 [.sc .nilFunc] (.n 283 [.sc .nilFunc] (.n 281 [.sc .nilFunc] .e .e) .e) (.n 285 [.sc .nilFunc] .e .e))) (.n 292 [.sc (.bool false), .sc (.bool false), .sc (.bool false), .sc (.bool false), .sc (.bool false), .sc (.bool false), .sc (.bool false), .sc (.bool false), .sc (.bool false), .sc (.bool false), .sc (.bool false), .sc (.bool false), .sc (.bool false), .sc (.bool false), .sc (.bool false), .sc (.bool false), .sc (.bool false), .sc (.bool false), .sc (.bool false), .sc (.bool false), .sc (.bool false), .sc (.bool false), .sc (.bool false), .sc (.bool false), .sc (.bool false), .sc (.bool false), .sc (.bool false), .sc (.bool false), .sc (.bool false), .sc (.bool false), .sc (.bool false), .sc (.bool false), .sc (.bool false), .sc (.bool false), .sc (.bool false), .sc (.bool false), .sc (.bool false), .sc (.bool false), .sc (.bool false), .sc (.bool false), .sc (.bool false), .sc (.bool false), .sc (.bool false), .sc (.bool false), .sc (.bool false), .sc (.bool false), .sc (.bool false), .sc (.bool false), .sc (.bool false), .sc (.bool false), .sc (.bool false), .sc (.bool false), .sc (.bool false), .sc (.bool false), .sc (.bool false), .sc (.bool false), .sc (.bool false), .sc (.bool false), .sc (.bool false), .sc (.bool false), .sc (.bool false), .sc (.bool false), .sc (.bool false), .sc (.bool false), .sc (.bool false), .sc (.bool false), .sc (.bool false), .sc (.bool false), .sc (.bool false), .sc (.bool false), .sc (.bool false), .sc (.bool false), .sc (.bool false), .sc (.bool false), .sc (.bool false), .sc (.bool false), .sc (.bool false), .sc (.bool false), .sc (.bool false), .sc (.bool false), .sc (.bool false), .sc (.bool false), .sc (.bool false), .sc (.bool false), .sc (.bool false), .sc (.bool false), .sc (.bool false), .sc (.bool false), .sc (.bool false), .sc (.bool false), .sc (.bool false), .sc (.bool false), .sc (.bool false), .sc (.bool false), .sc (.bool false), .sc (.bool false), .sc (.bool false), .sc (.bool false), .sc (.bool false), .sc (.bool false), .sc (.bool false), .sc (.bool false), .sc (.bool false), .sc (.bool false), .sc (.bool false), .sc (.bool false), .sc (.bool false), .sc (.bool false), .sc (.bool false), .sc (.bool false), .sc (.bool false), .sc (.bool false), .sc (.bool false), .sc (.bool false), .sc (.bool false), .sc (.bool false), .sc (.bool false), .sc (.bool false), .sc (.bool false), .sc (.bool false), .sc (.bool false), .sc (.bool false), .sc (.bool false), .sc (.bool false), .sc (.bool false), .sc (.bool false), .sc (.bool false), .sc (.bool false), .sc (.bool false), .sc (.bool false), .sc (.bool false), .sc (.bool false), .sc (.bool false), .sc (.bool false), .sc (.bool false), .sc (.bool false), .sc (.bool false), .sc (.bool false), .sc (.bool false), .sc (.bool false), .sc (.bool false), .sc (.bool false), .sc (.bool false), .sc (.bool false), .sc (.bool false), .sc (.bool false), .sc (.bool false), .sc (.bool false), .sc (.bool false), .sc (.bool false), .sc (.bool false), .sc (.bool false), .sc (.bool false), .sc (.bool false), .sc (.bool false), .sc (.bool false), .sc (.bool false), .sc (.bool false), .sc (.bool false), .sc (.bool false), .sc (.bool false), .sc (.bool false), .sc (.bool false), .sc (.bool false), .sc (.bool false), .sc (.bool false), .sc (.bool false), .sc (.bool false), .sc (.bool false), .sc (.bool false), .sc (.bool false), .sc (.bool false), .sc (.bool false), .sc (.bool false), .sc (.bool false), .sc (.bool false), .sc (.bool false), .sc (.bool false), .sc (.bool false), .sc (.bool false), .sc (.bool false), .sc (.bool false), .sc (.bool false), .sc (.bool false), .sc (.bool false), .sc (.bool false), .sc (.bool false), .sc (.bool false), .sc (.bool false), .sc (.bool false), .sc (.bool false), .sc (.bool false), .sc (.bool false), .sc (.bool false), .sc (.bool false), .sc (.bool false), .sc (.bool false), .sc (.bool false), .sc (.bool false), .sc (.bool false), .sc (.bool false), .sc (.bool false), .sc (.bool false), .sc (.bool false), .sc (.bool false), .sc (.bool false), .sc (.bool false), .sc (.bool false), .sc (.bool false), .sc (.bool false), .sc (.bool false), .sc (.bool false), .sc (.bool false), .sc (.bool false), .sc (.bool false), .sc (.bool false), .sc (.bool false), .sc (.bool false), .sc (.bool false), .sc (.bool false), .sc (.bool false), .sc (.bool false), .sc (.bool false), .sc (.bool false), .sc (.bool false), .sc (.bool false), .sc (.bool false), .sc (.bool false), .sc (.bool false), .sc (.bool false), .sc (.bool false), .sc (.bool false), .sc (.bool false), .sc (.bool false), .sc (.bool false), .sc (.bool false), .sc (.bool false), .sc (.bool false), .sc (.bool false), .sc (.bool false), .sc (.bool false), .sc (.bool false), .sc (.bool false), .sc (.bool false), .sc (.bool false), .sc (.bool false), .sc (.bool false), .sc (.bool false), .sc (.bool false), .sc (.bool false), .sc (.bool false), .sc (.bool false), .sc (.bool false), .sc (.bool false), .sc (.bool false), .sc (.bool false)] (.n 289 [.sc .nilFunc] (.n 288 [.sc .nilFunc] (.n 287 [.sc .nilFunc] .e .e) .e) (.n 291 [.sc .nilFunc] (.n 290 [.sc .nilFunc] .e .e) .e)) (.n 296 [.sc .nilFunc] (.n 295 [.sc .nilFunc] (.n 293 [.sc (.bool false), .sc (.bool false), .sc (.bool false), .sc (.bool false), .sc (.bool false), .sc (.bool false), .sc (.bool false), .sc (.bool false), .sc (.bool false), .sc (.bool false), .sc (.bool false), .sc (.bool false), .sc (.bool false), .sc (.bool false), .sc (.bool false), .sc (.bool false), .sc (.bool false), .sc (.bool false), .sc (.bool false), .sc (.bool false), .sc (.bool false), .sc (.bool false), .sc (.bool false), .sc (.bool false), .sc (.bool false), .sc (.bool false), .sc (.bool false), .sc (.bool false), .sc (.bool false), .sc (.bool false), .sc (.bool false), .sc (.bool false), .sc (.bool false), .sc (.bool false), .sc (.bool false), .sc (.bool false), .sc (.bool false), .sc (.bool false), .sc (.bool false), .sc (.bool false), .sc (.bool false), .sc (.bool false), .sc (.bool false), .sc (.bool false), .sc (.bool false), .sc (.bool false), .sc (.bool false), .sc (.bool false), .sc (.bool false), .sc (.bool false), .sc (.bool false), .sc (.bool false), .sc (.bool false), .sc (.bool false), .sc (.bool false), .sc (.bool false), .sc (.bool false), .sc (.bool false), .sc (.bool false), .sc (.bool false), .sc (.bool false), .sc (.bool false), .sc (.bool false), .sc (.bool false), .sc (.bool false), .sc (.bool false), .sc (.bool false), .sc (.bool false), .sc (.bool false), .sc (.bool false), .sc (.bool false), .sc (.bool false), .sc (.bool false), .sc (.bool false), .sc (.bool false), .sc (.bool false), .sc (.bool false), .sc (.bool false), .sc (.bool false), .sc (.bool false), .sc (.bool false), .sc (.bool false), .sc (.bool false), .sc (.bool false), .sc (.bool false), .sc (.bool false), .sc (.bool false), .sc (.bool false), .sc (.bool false), .sc (.bool false), .sc (.bool false), .sc (.bool false), .sc (.bool false), .sc (.bool false), .sc (.bool false), .sc (.bool false), .sc (.bool false), .sc (.bool false), .sc (.bool false), .sc (.bool false), .sc (.bool false), .sc (.bool false), .sc (.bool false), .sc (.bool false), .sc (.bool false), .sc (.bool false), .sc (.bool false), .sc (.bool false), .sc (.bool false), .sc (.bool false), .sc (.bool false), .sc (.bool false), .sc (.bool false), .sc (.bool false), .sc (.bool false), .sc (.bool false), .sc (.bool false), .sc (.bool false), .sc (.bool false), .sc (.bool false), .sc (.bool false), .sc (.bool false), .sc (.bool false), .sc (.bool false), .sc (.bool false), .sc (.bool false), .sc (.bool false), .sc (.bool false), .sc (.bool false), .sc (.bool false), .sc (.bool false), .sc (.bool false), .sc (.bool false), .sc (.bool false), .sc (.bool false), .sc (.bool false), .sc (.bool false), .sc (.bool false), .sc (.bool false), .sc (.bool false), .sc (.bool false), .sc (.bool false), .sc (.bool false), .sc (.bool false), .sc (.bool false), .sc (.bool false), .sc (.bool false), .sc (.bool false), .sc (.bool false), .sc (.bool false), .sc (.bool false), .sc (.bool false), .sc (.bool false), .sc (.bool false), .sc (.bool false), .sc (.bool false), .sc (.bool false), .sc (.bool false), .sc (.bool false), .sc (.bool false), .sc (.bool false), .sc (.bool false), .sc (.bool false), .sc (.bool false), .sc (.bool false), .sc (.bool false), .sc (.bool false), .sc (.bool false), .sc (.bool false), .sc (.bool false), .sc (.bool false), .sc (.bool false), .sc (.bool false), .sc (.bool false), .sc (.bool false), .sc (.bool false), .sc (.bool false), .sc (.bool false), .sc (.bool false), .sc (.bool false), .sc (.bool false), .sc (.bool false), .sc (.bool false), .sc (.bool false), .sc (.bool false), .sc (.bool false), .sc (.bool false), .sc (.bool false), .sc (.bool false), .sc (.bool false), .sc (.bool false), .sc (.bool false), .sc (.bool false), .sc (.bool false), .sc (.bool false), .sc (.bool false), .sc (.bool false), .sc (.bool false), .sc (.bool false), .sc (.bool false), .sc (.bool false), .sc (.bool false), .sc (.bool false), .sc (.bool false), .sc (.bool false), .sc (.bool false), .sc (.bool false), .sc (.bool false), .sc (.bool false), .sc (.bool false), .sc (.bool false), .sc (.bool false), .sc (.bool false), .sc (.bool false), .sc (.bool false), .sc (.bool false), .sc (.bool false), .sc (.bool false), .sc (.bool false), .sc (.bool false), .sc (.bool false), .sc (.bool false), .sc (.bool false), .sc (.bool false), .sc (.bool false), .sc (.bool false), .sc (.bool false), .sc (.bool false), .sc (.bool false), .sc (.bool false), .sc (.bool false), .sc (.bool false), .sc (.bool false), .sc (.bool false), .sc (.bool false), .sc (.bool false), .sc (.bool false), .sc (.bool false), .sc (.bool false), .sc (.bool false), .sc (.bool false), .sc (.bool false), .sc (.bool false), .sc (.bool false), .sc (.bool false), .sc (.bool false), .sc (.bool false), .sc (.bool false), .sc (.bool false), .sc (.bool false), .sc (.bool false), .sc (.bool false), .sc (.bool false), .sc (.bool false), .sc (.bool false), .sc (.bool false)] .e .e) .e) (.n 297 [.sc (.pointer none)] .e .e)))))) (.n 349 [.sc .nilFunc] (.n 325 [.sc .nilFunc] (.n 312 [.sc (.pointer none)] (.n 306 [.sc .nilFunc] (.n 302 [.sc .nilFunc] (.n 301 [.sc .nilFunc] (.n 300 [.sc .nilFunc] .e .e) .e) (.n 305 [.sc .nilFunc] (.n 303 [.sc (.string ⟨#[]⟩), .sc (.string ⟨#[]⟩)] .e .e) .e)) (.n 309 [.sc .nilFunc] (.n 308 [.sc .nilFunc] (.n 307 [.sc .nilFunc] .e .e) .e) (.n 311 [.sc .nilFunc] (.n 310 [.sc .nilFunc] .e .e) .e))) (.n 319 [.sc .nilFunc] (.n 315 [.sc .nilFunc] (.n 314 [.sc (.pointer none), .nils] (.n 313 [.sc (.pointer none), .nils] .e .e) .e) (.n 317 [.sc .nilIface] (.n 316 [.sc .nilIface] .e .e) .e)) (.n 322 [.sc .nilFunc] (.n 321 [.sc .nilFunc] (.n 320 [.sc .nilFunc] .e .e) .e) (.n 323 [.nils] .e .e)))) (.n 336 [.sc .nilFunc] (.n 331 [.sc (.string ⟨#[]⟩), .sc (.int .i64 (0))] (.n 328 [.nils] (.n 327 [.sc (.string ⟨#[]⟩), .sc (.bool false), .nils, .nils, .sc (.int .i64 (0))] (.n 326 [.sc (.string ⟨#[]⟩), .sc (.bool false), .nils, .nils, .sc (.int .i64 (0))] .e .e) .e) (.n 330 [.sc .nilFunc] (.n 329 [.sc (.pointer none)] .e .e) .e)) (.n 334 [.sc (.bool false), .sc (.string ⟨#[]⟩)] (.n 333 [.sc (.bool false), .sc (.string ⟨#[]⟩)] (.n 332 [.sc (.string ⟨#[]⟩), .sc (.int .i64 (0))] .e .e) .e) (.n 335 [.sc .nilFunc] .e .e))) (.n 343 [.sc .nilFunc] (.n 340 [.sc .nilFunc] (.n 339 [.sc .nilFunc] (.n 338 [.sc .nilFunc] .e .e) .e) (.n 342 [.sc .nilFunc] (.n 341 [.sc .nilFunc] .e .e) .e)) (.n 346 [.sc .nilFunc] (.n 345 [.sc .nilFunc] (.n 344 [.sc .nilFunc] .e .e) .e) (.n 348 [.sc .nilFunc] .e .e))))) (.n 372 [.sc (.int .u8 (0)), .sc (.int .u8 (0))] (.n 361 [.sc (.pointer none)] (.n 355 [.sc .nilFunc] (.n 352 [.sc (.pointer none)] (.n 351 [.sc .nilFunc] (.n 350 [.sc .nilFunc] .e .e) .e) (.n 354 [.sc .nilFunc] (.n 353 [.sc .nilFunc] .e .e) .e)) (.n 358 [.sc .nilFunc] (.n 357 [.sc .nilFunc] (.n 356 [.sc .nilFunc] .e .e) .e) (.n 360 [.sc .nilFunc] (.n 359 [.sc .nilFunc] .e .e) .e))) (.n 367 [.sc .nilFunc] (.n 364 [.sc .nilFunc] (.n 363 [.sc .nilFunc] (.n 362 [.sc .nilFunc] .e .e) .e) (.n 366 [.sc .nilFunc] (.n 365 [.sc .nilFunc] .e .e) .e)) (.n 370 [.sc .nilFunc] (.n 369 [.sc .nilFunc] (.n 368 [.sc .nilFunc] .e .e) .e) (.n 371 [.sc (.int .u8 (0)), .sc (.int .u8 (0)), .sc (.int .u8 (0)), .sc (.int .u8 (0)), .sc (.int .u8 (0)), .sc (.int .u8 (0)), .sc (.int .u8 (0)), .sc (.int .u8 (0)), .sc (.int .u8 (0)), .sc (.int .u8 (0)), .sc (.int .u8 (0)), .sc (.int .u8 (0)), .sc (.int .u8 (0)), .sc (.int .u8 (0)), .sc (.int .u8 (0)), .sc (.int .u8 (0)), .sc (.int .u8 (0)), .sc (.int .u8 (0)), .sc (.int .u8 (0)), .sc (.int .u8 (0)), .sc (.int .u8 (0)), .sc (.int .u8 (0)), .sc (.int .u8 (0)), .sc (.int .u8 (0)), .sc (.int .u8 (0)), .sc (.int .u8 (0)), .sc (.int .u8 (0)), .sc (.int .u8 (0)), .sc (.int .u8 (0)), .sc (.int .u8 (0)), .sc (.int .u8 (0)), .sc (.int .u8 (0)), .sc (.int .u8 (0)), .sc (.int .u8 (0)), .sc (.int .u8 (0)), .sc (.int .u8 (0)), .sc (.int .u8 (0)), .sc (.int .u8 (0)), .sc (.int .u8 (0)), .sc (.int .u8 (0)), .sc (.int .u8 (0)), .sc (.int .u8 (0)), .sc (.int .u8 (0)), .sc (.int .u8 (0)), .sc (.int .u8 (0)), .sc (.int .u8 (0)), .sc (.int .u8 (0)), .sc (.int .u8 (0)), .sc (.int .u8 (0)), .sc (.int .u8 (0)), .sc (.int .u8 (0)), .sc (.int .u8 (0)), .sc (.int .u8 (0)), .sc (.int .u8 (0)), .sc (.int .u8 (0)), .sc (.int .u8 (0)), .sc (.int .u8 (0)), .sc (.int .u8 (0)), .sc (.int .u8 (0)), .sc (.int .u8 (0)), .sc (.int .u8 (0)), .sc (.int .u8 (0)), .sc (.int .u8 (0)), .sc (.int .u8 (0)), .sc (.int .u8 (0)), .sc (.int .u8 (0)), .sc (.int .u8 (0)), .sc (.int .u8 (0)), .sc (.int .u8 (0)), .sc (.int .u8 (0)), .sc (.int .u8 (0)), .sc (.int .u8 (0)), .sc (.int .u8 (0)), .sc (.int .u8 (0)), .sc (.int .u8 (0)), .sc (.int .u8 (0)), .sc (.int .u8 (0)), .sc (.int .u8 (0)), .sc (.int .u8 (0)), .sc (.int .u8 (0)), .sc (.int .u8 (0)), .sc (.int .u8 (0)), .sc (.int .u8 (0)), .sc (.int .u8 (0)), .sc (.int .u8 (0)), .sc (.int .u8 (0)), .sc (.int .u8 (0)), .sc (.int .u8 (0)), .sc (.int .u8 (0)), .sc (.int .u8 (0)), .sc (.int .u8 (0)), .sc (.int .u8 (0)), .sc (.int .u8 (0)), .sc (.int .u8 (0)), .sc (.int .u8 (0)), .sc (.int .u8 (0)), .sc (.int .u8 (0)), .sc (.int .u8 (0)), .sc (.int .u8 (0)), .sc (.int .u8 (0)), .sc (.int .u8 (0)), .sc (.int .u8 (0)), .sc (.int .u8 (0)), .sc (.int .u8 (0)), .sc (.int .u8 (0)), .sc (.int .u8 (0)), .sc (.int .u8 (0)), .sc (.int .u8 (0)), .sc (.int .u8 (0)), .sc (.int .u8 (0)), .sc (.int .u8 (0)), .sc (.int .u8 (0)), .sc (.int .u8 (0)), .sc (.int .u8 (0)), .sc (.int .u8 (0)), .sc (.int .u8 (0)), .sc (.int .u8 (0)), .sc (.int .u8 (0)), .sc (.int .u8 (0)), .sc (.int .u8 (0)), .sc (.int .u8 (0)), .sc (.int .u8 (0)), .sc (.int .u8 (0)), .sc (.int .u8 (0)), .sc (.int .u8 (0)), .sc (.int .u8 (0)), .sc (.int .u8 (0)), .sc (.int .u8 (0)), .sc (.int .u8 (0)), .sc (.int .u8 (0)), .sc (.int .u8 (0)), .sc (.int .u8 (0)), .sc (.int .u8 (0)), .sc (.int .u8 (0)), .sc (.int .u8 (0)), .sc (.int .u8 (0)), .sc (.int .u8 (0)), .sc (.int .u8 (0)), .sc (.int .u8 (0)), .sc (.int .u8 (0)), .sc (.int .u8 (0)), .sc (.int .u8 (0)), .sc (.int .u8 (0)), .sc (.int .u8 (0)), .sc (.int .u8 (0)), .sc (.int .u8 (0)), .sc (.int .u8 (0)), .sc (.int .u8 (0)), .sc (.int .u8 (0)), .sc (.int .u8 (0)), .sc (.int .u8 (0)), .sc (.int .u8 (0)), .sc (.int .u8 (0)), .sc (.int .u8 (0)), .sc (.int .u8 (0)), .sc (.int .u8 (0)), .sc (.int .u8 (0)), .sc (.int .u8 (0)), .sc (.int .u8 (0)), .sc (.int .u8 (0)), .sc (.int .u8 (0)), .sc (.int .u8 (0)), .sc (.int .u8 (0)), .sc (.int .u8 (0)), .sc (.int .u8 (0)), .sc (.int .u8 (0)), .sc (.int .u8 (0)), .sc (.int .u8 (0)), .sc (.int .u8 (0)), .sc (.int .u8 (0)), .sc (.int .u8 (0)), .sc (.int .u8 (0)), .sc (.int .u8 (0)), .sc (.int .u8 (0)), .sc (.int .u8 (0)), .sc (.int .u8 (0)), .sc (.int .u8 (0)), .sc (.int .u8 (0)), .sc (.int .u8 (0)), .sc (.int .u8 (0)), .sc (.int .u8 (0)), .sc (.int .u8 (0)), .sc (.int .u8 (0)), .sc (.int .u8 (0)), .sc (.int .u8 (0)), .sc (.int .u8 (0)), .sc (.int .u8 (0)), .sc (.int .u8 (0)), .sc (.int .u8 (0)), .sc (.int .u8 (0)), .sc (.int .u8 (0)), .sc (.int .u8 (0)), .sc (.int .u8 (0)), .sc (.int .u8 (0)), .sc (.int .u8 (0)), .sc (.int .u8 (0)), .sc (.int .u8 (0)), .sc (.int .u8 (0)), .sc (.int .u8 (0)), .sc (.int .u8 (0)), .sc (.int .u8 (0)), .sc (.int .u8 (0)), .sc (.int .u8 (0)), .sc (.int .u8 (0)), .sc (.int .u8 (0)), .sc (.int .u8 (0)), .sc (.int .u8 (0)), .sc (.int .u8 (0)), .sc (.int .u8 (0)), .sc (.int .u8 (0)), .sc (.int .u8 (0)), .sc (.int .u8 (0)), .sc (.int .u8 (0)), .sc (.int .u8 (0)), .sc (.int .u8 (0)), .sc (.int .u8 (0)), .sc (.int .u8 (0)), .sc (.int .u8 (0)), .sc (.int .u8 (0)), .sc (.int .u8 (0)), .sc (.int .u8 (0)), .sc (.int .u8 (0)), .sc (.int .u8 (0)), .sc (.int .u8 (0)), .sc (.int .u8 (0)), .sc (.int .u8 (0)), .sc (.int .u8 (0)), .sc (.int .u8 (0)), .sc (.int .u8 (0)), .sc (.int .u8 (0)), .sc (.int .u8 (0)), .sc (.int .u8 (0)), .sc (.int .u8 (0)), .sc (.int .u8 (0)), .sc (.int .u8 (0)), .sc (.int .u8 (0)), .sc (.int .u8 (0)), .sc (.int .u8 (0)), .sc (.int .u8 (0)), .sc (.int .u8 (0)), .sc (.int .u8 (0)), .sc (.int .u8 (0)), .sc (.int .u8 (0)), .sc (.int .u8 (0)), .sc (.int .u8 (0)), .sc (.int .u8 (0)), .sc (.int .u8 (0)), .sc (.int .u8 (0)), .sc (.int .u8 (0)), .sc (.int .u8 (0)), .sc (.int .u8 (0)), .sc (.int .u8 (0)), .sc (.int .u8 (0)), .sc (.int .u8 (0)), .sc (.int .u8 (0)), .sc (.int .u8 (0))] .e .e)))) (.n 383 [] (.n 378 [.sc .nilFunc] (.n 375 [.sc .nilFunc] (.n 374 [.sc (.int .u8 (0)), .sc (.int .u8 (0)), .sc (.int .u8 (0)), .sc (.int .u8 (0)), .sc (.int .u8 (0)), .sc (.int .u8 (0)), .sc (.int .u8 (0)), .sc (.int .u8 (0)), .sc (.int .u8 (0)), .sc (.int .u8 (0)), .sc (.int .u8 (0)), .sc (.int .u8 (0)), .sc (.int .u8 (0)), .sc (.int .u8 (0)), .sc (.int .u8 (0)), .sc (.int .u8 (0)), .sc (.int .u8 (0)), .sc (.int .u8 (0)), .sc (.int .u8 (0)), .sc (.int .u8 (0)), .sc (.int .u8 (0)), .sc (.int .u8 (0)), .sc (.int .u8 (0)), .sc (.int .u8 (0)), .sc (.int .u8 (0)), .sc (.int .u8 (0)), .sc (.int .u8 (0)), .sc (.int .u8 (0)), .sc (.int .u8 (0)), .sc (.int .u8 (0)), .sc (.int .u8 (0)), .sc (.int .u8 (0))] (.n 373 [.sc (.int .u8 (0)), .sc (.int .u8 (0))] .e .e) .e) (.n 377 [.sc .nilFunc] (.n 376 [.sc .nilFunc] .e .e) .e)) (.n 381 [.sc (.pointer none), .sc (.pointer none), .sc (.pointer none), .sc (.string ⟨#[]⟩)] (.n 380 [.sc .nilFunc] (.n 379 [.sc .nilFunc] .e .e) .e) (.n 382 [.sc (.pointer none), .sc (.pointer none), .sc (.pointer none), .sc (.string ⟨#[]⟩)] .e .e))) (.n 389 [.sc (.int .i32 (0))] (.n 386 [.sc (.int .u8 (0))] (.n 385 [] (.n 384 [] .e .e) .e) (.n 388 [.sc .nilFunc] (.n 387 [.sc (.int .u8 (0))] .e .e) .e)) (.n 392 [.sc (.int .u64 (0)), .sc (.int .u64 (0)), .sc (.int .u32 (0)), .sc (.int .u8 (0)), .sc (.int .u8 (0)), .sc (.int .u8 (0)), .sc (.int .u8 (0)), .sc .nilFunc, .sc (.pointer none), .sc (.int .i32 (0)), .sc (.int .i32 (0))] (.n 391 [.sc (.int .u64 (0)), .sc (.int .u64 (0)), .sc (.int .u32 (0)), .sc (.int .u8 (0)), .sc (.int .u8 (0)), .sc (.int .u8 (0)), .sc (.int .u8 (0)), .sc .nilFunc, .sc (.pointer none), .sc (.int .i32 (0)), .sc (.int .i32 (0))] (.n 390 [.sc (.int .i32 (0))] .e .e) .e) (.n 393 [.sc .nilFunc] .e .e))))))))
noncomputable def tx_bt : BT (List (Nat × Nat)) := (.n 161 [(0, 1), (1, 1), (2, 1), (3, 1)] (.n 63 [(0, 1), (1, 1)] (.n 31 [(0, 3), (3, 1), (4, 1), (5, 1), (6, 1), (7, 1), (8, 1), (9, 1)] (.n 18 [(0, 1)] (.n 13 [(0, 1), (1, 1)] (.n 8 [(0, 1), (1, 1), (2, 1), (3, 1)] (.n 7 [(0, 1), (1, 1), (2, 1), (3, 1)] .e .e) .e) (.n 14 [(0, 1), (1, 1)] .e .e)) (.n 23 [(0, 1), (1, 1), (2, 1)] (.n 19 [(0, 1)] .e .e) (.n 24 [(0, 1), (1, 1), (2, 1)] .e .e))) (.n 51 [(0, 1), (1, 1), (2, 1), (3, 1), (4, 1), (5, 1), (6, 1), (7, 1)] (.n 37 [(0, 3), (3, 1)] (.n 36 [(0, 3), (3, 1)] (.n 32 [(0, 3), (3, 1), (4, 1), (5, 1), (6, 1), (7, 1), (8, 1), (9, 1)] .e .e) .e) (.n 50 [(0, 1), (1, 1), (2, 1), (3, 1), (4, 1), (5, 1), (6, 1), (7, 1)] .e .e)) (.n 57 [(0, 1), (1, 1)] (.n 56 [(0, 1), (1, 1)] .e .e) (.n 62 [(0, 1), (1, 1)] .e .e)))) (.n 101 [(0, 1), (1, 1), (2, 1), (3, 1), (4, 1), (5, 1), (6, 1)] (.n 80 [(0, 1), (1, 1), (2, 1)] (.n 69 [(0, 1), (1, 1), (2, 8), (10, 1)] (.n 66 [(0, 3), (3, 1)] (.n 65 [(0, 3), (3, 1)] .e .e) .e) (.n 70 [(0, 1), (1, 1), (2, 8), (10, 1)] .e .e)) (.n 86 [(0, 1), (1, 1)] (.n 81 [(0, 1), (1, 1), (2, 1)] .e .e) (.n 87 [(0, 1), (1, 1)] .e .e))) (.n 121 [(0, 1), (1, 1)] (.n 118 [(0, 1)] (.n 102 [(0, 1), (1, 1), (2, 1), (3, 1), (4, 1), (5, 1), (6, 1)] .e .e) (.n 119 [(0, 1)] .e .e)) (.n 123 [(0, 10), (10, 1)] (.n 122 [(0, 1), (1, 1)] .e .e) (.n 124 [(0, 10), (10, 1)] .e .e))))) (.n 303 [(0, 1), (1, 1)] (.n 214 [(0, 1), (1, 1)] (.n 203 [(0, 1), (1, 1)] (.n 166 [(0, 1), (1, 1)] (.n 165 [(0, 1), (1, 1)] (.n 162 [(0, 1), (1, 1), (2, 1), (3, 1)] .e .e) .e) (.n 202 [(0, 1), (1, 1)] .e .e)) (.n 210 [(0, 1), (1, 1), (2, 1)] (.n 209 [(0, 1), (1, 1), (2, 1)] .e .e) (.n 213 [(0, 1), (1, 1)] .e .e))) (.n 249 [(0, 1), (1, 1), (2, 1), (3, 1)] (.n 221 [(0, 1), (1, 1), (2, 1), (3, 1), (4, 1)] (.n 219 [(0, 1), (1, 1), (2, 1)] (.n 218 [(0, 1), (1, 1), (2, 1)] .e .e) .e) (.n 222 [(0, 1), (1, 1), (2, 1), (3, 1), (4, 1)] .e .e)) (.n 273 [(0, 1), (1, 1)] (.n 250 [(0, 1), (1, 1), (2, 1), (3, 1)] .e .e) (.n 274 [(0, 1), (1, 1)] .e .e)))) (.n 372 [(0, 1), (1, 1)] (.n 331 [(0, 1), (1, 1)] (.n 326 [(0, 1), (1, 1), (2, 1), (3, 1), (4, 1)] (.n 314 [(0, 1), (1, 1)] (.n 313 [(0, 1), (1, 1)] .e .e) .e) (.n 327 [(0, 1), (1, 1), (2, 1), (3, 1), (4, 1)] .e .e)) (.n 333 [(0, 1), (1, 1)] (.n 332 [(0, 1), (1, 1)] .e .e) (.n 334 [(0, 1), (1, 1)] .e .e))) (.n 384 [(0, 0)] (.n 381 [(0, 1), (1, 1), (2, 1), (3, 1)] (.n 373 [(0, 1), (1, 1)] .e .e) (.n 382 [(0, 1), (1, 1), (2, 1), (3, 1)] .e .e)) (.n 391 [(0, 1), (1, 1), (2, 1), (3, 1), (4, 1), (5, 1), (6, 1), (7, 1), (8, 1), (9, 1), (10, 1)] (.n 385 [(0, 0)] .e .e) (.n 392 [(0, 1), (1, 1), (2, 1), (3, 1), (4, 1), (5, 1), (6, 1), (7, 1), (8, 1), (9, 1), (10, 1)] .e .e))))))
noncomputable def tx_ss : BT (Nat) := (.n 57 2 (.n 36 4 (.n 24 3 (.n 23 3 .e .e) .e) (.n 56 2 (.n 37 4 .e .e) .e)) (.n 86 2 (.n 63 2 (.n 62 2 .e .e) .e) (.n 303 2 (.n 87 2 .e .e) .e)))
noncomputable def tx_by : BT (Nat) := (.n 73 5 .e .e)
noncomputable def tx_cv : BT (List (Nat × (Nat × Nat))) := (.n 361 [(312, (314, 2))] (.n 312 [(361, (314, 2))] .e .e) .e)
noncomputable def tx_ei : BT (Unit) := (.n 311 () .e .e)
noncomputable def tx_pt : BT (Unit) := (.n 199 () (.n 97 () (.n 27 () (.n 16 () (.n 15 () .e .e) (.n 17 () .e .e)) (.n 94 () (.n 52 () .e .e) .e)) (.n 171 () (.n 169 () (.n 163 () .e .e) .e) (.n 175 () (.n 173 () .e .e) .e))) (.n 261 () (.n 233 () (.n 216 () (.n 212 () .e .e) .e) (.n 238 () (.n 235 () .e .e) .e)) (.n 312 () (.n 297 () (.n 265 () .e .e) .e) (.n 352 () (.n 329 () .e .e) .e))))
noncomputable def tbx : Tab := tabT tx_ld tx_fo tx_el tx_ap tx_kd tx_zd tx_bt tx_ss tx_by tx_cv tx_ei tx_pt
theorem bsize : ∃ j, Tryz.prog.info? 314 = some j ∧ j.size = 2 := Option.map_eq_some_iff.1 (show (Tryz.prog.info? 314).map (·.size) = some 2 by kernel_rfl)
theorem tx_cvok : ∀ x ∈ tx_cv.toL, ∀ y ∈ x.2, CvOk Tryz.prog x.1 y.1 y.2.1 y.2.2 := all_cons (all_cons (fun w b h => by obtain ⟨j, h1, h2⟩ := bsize; exact Lib.run_to_unsafe w ⟨b, 0, none⟩ Tryz.underlying312 Tryz.underlying361 h1 (by omega) h (Nat.zero_lt_succ 1)) all_nil) (all_cons (all_cons (fun w b h => by obtain ⟨j, h1, h2⟩ := bsize; exact Lib.run_from_unsafe w ⟨b, 0, none⟩ Tryz.underlying361 Tryz.underlying312 h1 h (by kernel_rfl)) all_nil) all_nil)
theorem tx_eiok : ∀ x ∈ tx_ei.toL, IdFn Tryz.prog x.1 := all_cons (fun v w => by rw [run_callFunc_extern Tryz.func311 (by kernel_rfl) (by kernel_rfl) (by kernel_rfl) (e := Extern.AbiNoEscape.same) (by kernel_rfl), Lib.run_noEscape]; rfl) all_nil
theorem tbOk : TabOk Tryz.prog tbx := tabT_ok (map_ok (by kernel_rfl)) (by kernel_rfl) (map_ok (by kernel_rfl)) (map_ok (by kernel_rfl)) (by kernel_rfl) (map_ok (by kernel_rfl)) (map_ok (by kernel_rfl)) (map_ok (by kernel_rfl)) (map_ok (by kernel_rfl)) tx_cvok tx_eiok (map_okB (by kernel_rfl)) (by kernel_rfl)
theorem u8Ok : u8T Tryz.prog tbx := by
  intro t e h
  have h : tx_by.get t = some e := h
  exact BT.get_ok (p := fun _ e => Tryz.prog.underlying e = some (.int .u8)) (b := tx_by) (List.map_inj_left.1 (show tx_by.toL.map (fun x => Tryz.prog.underlying x.2) = tx_by.toL.map (fun _ => some (.int .u8)) from by kernel_rfl)) h
noncomputable def mtab : MTab where
  get t := cond (Nat.beq t 77) (some (24, 9, 5, false)) (cond (Nat.beq t 78) (some (87, 71, 4, false)) (cond (Nat.beq t 99) (some (9, 3, 0, false)) (cond (Nat.beq t 120) (some (24, 124, 5, true)) (cond (Nat.beq t 176) (some (9, 104, 0, false)) (cond (Nat.beq t 177) (some (9, 104, 0, false)) (cond (Nat.beq t 217) (some (3, 3, 1, false)) (cond (Nat.beq t 227) (some (9, 4, 0, false)) (cond (Nat.beq t 271) (some (9, 9, 0, false)) (cond (Nat.beq t 272) (some (9, 332, 0, true)) (none))))))))))
  fl t := cond (Nat.beq t 191) true (false)
  fd s f := cond (Nat.beq s 24) (cond (Nat.blt f 3) (some f) none) none
  pe t := cond (Nat.beq t 352) (some 5) (none)
theorem cond_some {α : Type} {t n : Nat} {x y : α} {r : Option α} {C : Prop} (h : cond (Nat.beq t n) (some x) r = some y) (h1 : t = n → x = y → C) (h2 : r = some y → C) : C := by
  cases hb : Nat.beq t n <;> rw [hb] at h
  · exact h2 h
  · exact h1 (Nat.eq_of_beq_eq_true hb) (Option.some.inj h)
theorem mtabOk : MTabOk Tryz.prog mtab := by
  intro t kt e kind g h
  refine cond_some h (fun h1 h2 => ?_) (fun h => ?_)
  · subst h1; cases h2; exact ⟨by kernel_rfl, (show strStruct Tryz.prog 24 = some 3 by kernel_rfl), by kernel_rfl⟩
  refine cond_some h (fun h1 h2 => ?_) (fun h => ?_)
  · subst h1; cases h2; exact ⟨by kernel_rfl, (show strStruct Tryz.prog 87 = some 2 by kernel_rfl), by kernel_rfl⟩
  refine cond_some h (fun h1 h2 => ?_) (fun h => ?_)
  · subst h1; cases h2; exact ⟨by kernel_rfl, (show Tryz.prog.underlying 9 = some .string by kernel_rfl), by kernel_rfl⟩
  refine cond_some h (fun h1 h2 => ?_) (fun h => ?_)
  · subst h1; cases h2; exact ⟨by kernel_rfl, (show strStruct Tryz.prog 24 = some 3 by kernel_rfl), by kernel_rfl⟩
  refine cond_some h (fun h1 h2 => ?_) (fun h => ?_)
  · subst h1; cases h2; exact ⟨by kernel_rfl, (show Tryz.prog.underlying 9 = some .string by kernel_rfl), by kernel_rfl⟩
  refine cond_some h (fun h1 h2 => ?_) (fun h => ?_)
  · subst h1; cases h2; exact ⟨by kernel_rfl, (show Tryz.prog.underlying 9 = some .string by kernel_rfl), by kernel_rfl⟩
  refine cond_some h (fun h1 h2 => ?_) (fun h => ?_)
  · subst h1; cases h2; exact ⟨by kernel_rfl, ⟨.i64, by kernel_rfl⟩, by kernel_rfl⟩
  refine cond_some h (fun h1 h2 => ?_) (fun h => ?_)
  · subst h1; cases h2; exact ⟨by kernel_rfl, (show Tryz.prog.underlying 9 = some .string by kernel_rfl), by kernel_rfl⟩
  refine cond_some h (fun h1 h2 => ?_) (fun h => ?_)
  · subst h1; cases h2; exact ⟨by kernel_rfl, (show Tryz.prog.underlying 9 = some .string by kernel_rfl), by kernel_rfl⟩
  refine cond_some h (fun h1 h2 => ?_) (fun h => ?_)
  · subst h1; cases h2; exact ⟨by kernel_rfl, (show Tryz.prog.underlying 9 = some .string by kernel_rfl), by kernel_rfl⟩
  cases h
theorem cond_true' {t n : Nat} {r : Bool} {C : Prop} (h : cond (Nat.beq t n) true r = true) (h1 : t = n → C) (h2 : r = true → C) : C := by
  cases hb : Nat.beq t n <;> rw [hb] at h
  · exact h2 h
  · exact h1 (Nat.eq_of_beq_eq_true hb)
theorem fields_co : Tryz.prog.underlying 24 = some (.struct (Tryz.prog.fieldsOf 24)) := by kernel_rfl
theorem fields_at0 : ((Tryz.prog.fieldsOf 24)[0]?).map (fun x : Field => (x.offset, Tryz.prog.plainKey x.type)) = some (0, true) := by kernel_rfl
theorem fields_at1 : ((Tryz.prog.fieldsOf 24)[1]?).map (fun x : Field => (x.offset, Tryz.prog.plainKey x.type)) = some (1, true) := by kernel_rfl
theorem fields_at2 : ((Tryz.prog.fieldsOf 24)[2]?).map (fun x : Field => (x.offset, Tryz.prog.plainKey x.type)) = some (2, true) := by kernel_rfl
theorem fields_of {f : Nat} (h : ((Tryz.prog.fieldsOf 24)[f]?).map (fun x : Field => (x.offset, Tryz.prog.plainKey x.type)) = some (f, true)) : ∃ x : Field, (Tryz.prog.fieldsOf 24)[f]? = some x ∧ x.offset = f ∧ Tryz.prog.plainKey x.type = true := by
  obtain ⟨x, h1, h2⟩ := Option.map_eq_some_iff.1 h
  simp only [Prod.mk.injEq] at h2
  exact ⟨x, h1, h2.1, h2.2⟩
theorem fields_at (f : Nat) (h : f < 3) : ∃ x : Field, (Tryz.prog.fieldsOf 24)[f]? = some x ∧ x.offset = f ∧ Tryz.prog.plainKey x.type = true := by
  have h3 : f = 0 ∨ f = 1 ∨ f = 2 := by omega
  rcases h3 with h3 | h3 | h3 <;> rw [h3]
  · exact fields_of fields_at0
  · exact fields_of fields_at1
  · exact fields_of fields_at2
theorem flOk : FlOk Tryz.prog mtab := by
  refine ⟨fun t h => ?_, fun s f k h cs v w hv => ?_, fun t e h => ?_⟩
  · refine cond_true' h (fun h1 => by subst h1; kernel_rfl) (fun h => ?_)
    cases h
  · have h : cond (Nat.beq s 24) (cond (Nat.blt f 3) (some f) none) none = some k := h
    cases hs : Nat.beq s 24 <;> rw [hs] at h
    · cases h
    · cases hf : Nat.blt f 3 <;> rw [hf] at h
      · cases h
      · cases h
        have hs := Nat.eq_of_beq_eq_true hs
        subst hs
        rw [blt_eq] at hf
        obtain ⟨x, h1, h2, h3⟩ := fields_at f (of_decide_eq_true hf)
        have := run_part_plain (P := Tryz.prog) (w := w) (e := x.type) h3 (xs := cs) (off := f) hv
        simp [Instr.field, run_underlying fields_co, h1, asAgg, h2, this]
  · refine cond_some h (fun h1 h2 => by subst h1; cases h2; exact ⟨by kernel_rfl, by kernel_rfl⟩) (fun h => ?_)
    cases h
noncomputable def bd (f : Func) : Code := match f.body with | some c => c | none => .skip
noncomputable def evF (fu : Nat) (cf : CF) (e : FE) : List V → H → Id → KV → R := evFn tbx mtab (fun cf _ => drF tbx mtab cf) fu cf e
theorem pfo {f : FuncId} (e : FE) {s : CF → Fn1} (h1 : Tryz.prog.funcs[f]? = some e.fn) (h2 : (e.fn.body, callable Tryz.prog f, e.ps, Nat.ble e.ps.length e.fn.ntmps) = (some e.code, true, List.range e.ps.length, true)) (H : ∀ cf vs h n k r, s cf vs h n k = some r → evF fuX cf e vs h n k = some r) : PfOk Tryz.prog tbx mtab f s :=
  pf_of tbOk u8Ok mtabOk flOk ⟨h1, congrArg (·.1) h2, congrArg (·.2.1) h2, congrArg (·.2.2.1) h2, Nat.le_of_ble_eq_true (congrArg (·.2.2.2) h2)⟩ H
end Go.Proofs.Nw.X
end
