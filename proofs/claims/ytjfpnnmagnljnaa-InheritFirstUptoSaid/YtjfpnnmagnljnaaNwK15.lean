/- K15: what is to be shown of code, computed: 'vc'. -/
import Derived.Test.YtjfpnnmagnljnaaNwK23
open Go Go.RowKit
set_option linter.unusedVariables false
set_option linter.unusedSimpArgs false
namespace Go.Proofs.Nw.K

/-- one datum may stand for another -/
def DLe (d d' : DV) : Prop := ∀ σ v, RepV σ v d → RepV σ v d'
theorem DLe.refl (d : DV) : DLe d d := fun _ _ h => h
theorem DLe.tl {α : Type} {sz : Nat} {enc : α → List D} (z : α) {xs : List α} {ys : List (List D)} (e : ys = xs.map enc) : DLe (.one (.list sz ys)) (.one (.tl α sz enc z xs)) :=
  fun σ v h => by subst e; exact Rep.tl h
theorem DLe.nils {α : Type} {sz : Nat} {enc : α → List D} (z : α) : DLe (.one .nils) (.one (.tl α sz enc z [])) :=
  fun σ v h => by
    have h : Rep σ v .nils := h
    cases h
    exact Rep.tl (Rep.nil (by simp [maxLen]))
theorem DLe.nilsl {sz : Nat} : DLe (.one .nils) (.one (.list sz [])) :=
  fun σ v h => by
    have h : Rep σ v .nils := h
    cases h
    exact Rep.nil (by simp [maxLen])
theorem DLe.of_eq {d d' : DV} (e : d = d') : DLe d d' := e ▸ DLe.refl d
/-- a struct, cell by cell -/
def CLe : List D → List D → Prop
  | [], [] => True
  | d :: r, d' :: r' => DLe (.one d) (.one d') ∧ CLe r r'
  | _, _ => False
theorem CLe.rep {σ : Sig} : ∀ {ds ds' : List D} {vs : List Value}, CLe ds ds' → RepL σ vs ds → RepL σ vs ds'
  | [], [], vs, _, h => h
  | d :: r, d' :: r', vs, hc, h => by
    cases vs with
    | nil => have := h.1; simp at this
    | cons v vs =>
      have ih := CLe.rep (vs := vs) hc.2 ⟨by have := h.1; simpa using this, fun i u e hu he => h.2 (i + 1) u e (by simpa using hu) (by simpa using he)⟩
      refine ⟨by have := ih.1; simp [this], fun i u e hu he => ?_⟩
      cases i with
      | zero => simp at hu he; subst hu he; exact hc.1 σ _ (h.2 0 _ d rfl rfl)
      | succ i => simp at hu he; exact ih.2 i u e hu he
  | [], _ :: _, _, hc, _ => hc.elim
  | _ :: _, [], _, hc, _ => hc.elim
theorem DLe.agg {ds ds' : List D} (h : CLe ds ds') : DLe (.agg ds) (.agg ds') := fun σ v hv => by
  obtain ⟨vs, e, hr⟩ := hv
  exact ⟨vs, e, h.rep hr⟩

/-- rows, one by one -/
def LsLe : List (List D) → List (List D) → Prop
  | [], [] => True
  | x :: r, y :: r' => CLe x y ∧ LsLe r r'
  | _, _ => False
theorem CLe.length : ∀ {ds ds' : List D}, CLe ds ds' → ds.length = ds'.length
  | [], [], _ => rfl
  | _ :: r, _ :: r', h => by simp [CLe.length h.2]
  | [], _ :: _, h => h.elim
  | _ :: _, [], h => h.elim
theorem CLe.get : ∀ {ds ds' : List D} {j : Nat} {d' : D}, CLe ds ds' → ds'[j]? = some d' → ∃ d, ds[j]? = some d ∧ DLe (.one d) (.one d')
  | d :: r, d' :: r', 0, e, h, hd => by simp at hd; subst hd; exact ⟨d, rfl, h.1⟩
  | d :: r, d' :: r', j + 1, e, h, hd => by
    obtain ⟨x, h1, h2⟩ := CLe.get (j := j) h.2 (by simpa using hd)
    exact ⟨x, by simpa using h1, h2⟩
  | [], [], _, _, _, hd => by simp at hd
  | [], _ :: _, _, _, h, _ => h.elim
  | _ :: _, [], _, _, h, _ => h.elim
theorem CLe.refl : ∀ ds : List D, CLe ds ds
  | [] => trivial
  | d :: r => ⟨DLe.refl _, CLe.refl r⟩
theorem LsLe.length : ∀ {a b : List (List D)}, LsLe a b → a.length = b.length
  | [], [], _ => rfl
  | _ :: r, _ :: r', h => by simp [LsLe.length h.2]
  | [], _ :: _, h => h.elim
  | _ :: _, [], h => h.elim
theorem LsLe.get : ∀ {a b : List (List D)} {i : Nat} {y : List D}, LsLe a b → b[i]? = some y → ∃ x, a[i]? = some x ∧ CLe x y
  | x :: r, y :: r', 0, e, h, hd => by simp at hd; subst hd; exact ⟨x, rfl, h.1⟩
  | x :: r, y :: r', j + 1, e, h, hd => by
    obtain ⟨z, h1, h2⟩ := LsLe.get (i := j) h.2 (by simpa using hd)
    exact ⟨z, by simpa using h1, h2⟩
  | [], [], _, _, _, hd => by simp at hd
  | [], _ :: _, _, _, h, _ => h.elim
  | _ :: _, [], _, _, h, _ => h.elim
theorem LsLe.refl : ∀ a : List (List D), LsLe a a
  | [] => trivial
  | x :: r => ⟨CLe.refl x, LsLe.refl r⟩
theorem LsLe.app : ∀ {a b c d : List (List D)}, LsLe a b → LsLe c d → LsLe (a ++ c) (b ++ d)
  | [], [], _, _, _, k => k
  | _ :: _, _ :: _, _, _, h, k => ⟨h.1, LsLe.app h.2 k⟩
  | [], _ :: _, _, _, h, _ => h.elim
  | _ :: _, [], _, _, h, _ => h.elim
theorem DLe.rows {sz : Nat} {a b : List (List D)} (h : LsLe a b) : DLe (.one (.list sz a)) (.one (.list sz b)) := fun σ v hv => by
  have hv : Rep σ v (.list sz a) := hv
  show Rep σ v (.list sz b)
  have hl := h.length
  cases hv with
  | nil hm =>
    cases b with
    | nil => exact .nil hm
    | cons _ _ => simp at hl
  | list val hn h0 hc hm hsz hcell hval =>
    refine .list val (by rw [hn, hl]) h0 hc hm (fun i y hy => ?_) hcell (fun i j y d hy hd => ?_)
    · obtain ⟨x, hx, hc⟩ := h.get hy
      rw [← hc.length]; exact hsz i x hx
    · obtain ⟨x, hx, hc⟩ := h.get hy
      obtain ⟨d0, hd0, hle⟩ := hc.get hd
      exact hle σ _ (hval i j x d0 hx hd0)
theorem DLe.trans {a b c : DV} (h : DLe a b) (k : DLe b c) : DLe a c := fun σ v hv => k σ v (h σ v hv)
theorem DLe.tlr {α : Type} {sz : Nat} {enc : α → List D} (z : α) {xs : List α} {ys : List (List D)} (h : LsLe ys (xs.map enc)) : DLe (.one (.list sz ys)) (.one (.tl α sz enc z xs)) :=
  (DLe.rows h).trans (DLe.tl z rfl)

def AsLe : List DV → List DV → Prop
  | [], [] => True
  | d :: r, d' :: r' => DLe d d' ∧ AsLe r r'
  | _, _ => False
theorem AsLe.rep {σ : Sig} : ∀ {ds ds' : List DV} {vs : List Value}, AsLe ds ds' → RepVs σ vs ds → RepVs σ vs ds'
  | [], [], vs, _, h => h
  | d :: r, d' :: r', vs, hc, h => by
    cases vs with
    | nil => have := h.1; simp at this
    | cons v vs =>
      have ih := AsLe.rep (vs := vs) hc.2 ⟨by have := h.1; simpa using this, fun i u e hu he => h.2 (i + 1) u e (by simpa using hu) (by simpa using he)⟩
      refine ⟨by have := ih.1; simp [this], fun i u e hu he => ?_⟩
      cases i with
      | zero => simp at hu he; subst hu he; exact hc.1 σ _ (h.2 0 _ d rfl rfl)
      | succ i => simp at hu he; exact ih.2 i u e hu he
  | [], _ :: _, _, hc, _ => hc.elim
  | _ :: _, [], _, hc, _ => hc.elim
theorem AsLe.refl : ∀ ds, AsLe ds ds
  | [] => trivial
  | d :: r => ⟨DLe.refl d, AsLe.refl r⟩

theorem AsLe.res {σ : Sig} {ds ds' : List DV} {u : Value} (h : AsLe ds ds') (hr : RepRes σ u ds) : RepRes σ u ds' := by
  match ds, ds', h with
  | [], [], _ => exact hr
  | [d], [d'], h => exact h.1 σ u hr
  | d :: e :: r, d' :: e' :: r', h =>
    obtain ⟨us, h1, h2⟩ := hr
    exact ⟨us, h1, h.rep h2⟩
  | [d], d' :: e' :: r', h => exact h.2.elim
  | d :: e :: r, [d'], h => exact h.2.elim

theorem Impl.le {P : Program} {f : FuncId} {ds ds' res : List DV} (h : Impl P f ds' res) (hl : AsLe ds ds') : Impl P f ds res :=
  fun w σ vs hs hv => h w σ vs hs (hl.rep hv)
theorem Impl.res {P : Program} {f : FuncId} {ds res res' : List DV} (h : Impl P f ds res) (hl : AsLe res res') : Impl P f ds res' :=
  fun w σ vs hs hv => (h w σ vs hs hv).mono fun e w' ⟨u, σ', h1, h2, h3, h4, h5⟩ => ⟨u, σ', h1, h2, h3, h4, hl.res h5⟩

/-! ### the tables, looked up -/
inductive TK where
  | int (k : IntKind) | str | bool | slice (e : Nat) | other

structure Tab where
  ld : Nat → Option (Nat × Bool)
  fo : Nat → Nat → Option Nat
  el : Nat → Option (Nat × Nat)
  ap : Nat → Option (Nat × Nat × Nat)
  kd : Nat → TK
  zb : Nat → Option (List AV)
  zd : Nat → Option (List D)
  bt : Nat → Option (List (Nat × Nat))
  ss : Nat → Option Nat
  cl : Nat → Bool
  bb : Nat → Option Nat
  cv : Nat → Nat → Option (Nat × Nat)
  ei : Nat → Bool
  pt : Nat → Bool

structure TabOk (P : Program) (T : Tab) : Prop where
  ld : ∀ t x, T.ld t = some x → ldT P t = some x
  fo : ∀ t f x, T.fo t f = some x → fieldOff P t f = some x
  el : ∀ t x, T.el t = some x → elT P t = some x
  ap : ∀ t x, T.ap t = some x → appT P t = some x
  kint : ∀ t k, T.kd t = .int k → P.underlying t = some (.int k)
  kstr : ∀ t, T.kd t = .str → P.underlying t = some .string
  kbool : ∀ t, T.kd t = .bool → P.underlying t = some .bool
  kslice : ∀ t e, T.kd t = .slice e → P.underlying t = some (.slice e)
  zb : ∀ t x, T.zb t = some x → zeroOf P t = some x
  zd : ∀ t x, T.zd t = some x → zeroD P t = some x
  bt : ∀ t x, T.bt t = some x → buildT P t = some x
  ss : ∀ t x, T.ss t = some x → strStruct P t = some x
  cl : ∀ f, T.cl f = true → callable P f = true
  bb : ∀ t e, T.bb t = some e → byteT P t = some e
  cv : ∀ s d b n, T.cv s d = some (b, n) → CvOk P s d b n
  ei : ∀ f, T.ei f = true → IdFn P f
  pt : ∀ t, T.pt t = true → ptrT P t = true
  mixed : P.follows .mixedOrders = true

def byteAt (s : ByteArray) (n : Nat) : Int := bt s n

abbrev KO := AV → List AO → Prop

/-- the value itself, not the way to it -/
def force (a : AV) (K : AV → Prop) : Prop :=
  match a with
  | .v (.one (.sc (.bool b))) => K (.v (.one (.sc (.bool b))))
  | .v (.one (.sc v)) => K (.v (.one (.sc v)))
  | .v (.one d) => K (.v (.one d))
  | .v (.agg cs) => K (.v (.agg cs))
  | .ptr s off => K (.ptr s off)
  | .h s k lo n => K (.h s k lo n)
  | .ep s k i off => K (.ep s k i off)
  | .omap s => K (.omap s)
  | .tup vs => K (.tup vs)
  | .clo f caps => K (.clo f caps)
  | .junk => K .junk
theorem force_out {a : AV} {K : AV → Prop} (h : force a K) : K a := by
  unfold force at h
  split at h <;> exact h

section
variable (P : Program) (T : Tab) (N : Fm)

/-- arithmetic on an int: within its range -/
def vcArith (k : IntKind) (r : Int) (st : List AO) (K : KO) : Prop :=
  match k with
  | .i64 => (-9223372036854775808 ≤ r ∧ r ≤ 9223372036854775807) ∧ K (.int r) st
  | k => K (.sc (.int k (k.wrap r))) st

def vcBin (op : BinOp) (t : Nat) (x y : AV) (st : List AO) (K : KO) : Prop :=
  match op, x, y with
  | .add, .v (.one (.sc (.int k a))), .v (.one (.sc (.int k' b))) => k' = k ∧ vcArith k (a + b) st K
  | .sub, .v (.one (.sc (.int k a))), .v (.one (.sc (.int k' b))) => k' = k ∧ vcArith k (a - b) st K
  | .mul, .v (.one (.sc (.int k a))), .v (.one (.sc (.int k' b))) => k' = k ∧ vcArith k (a * b) st K
  | .quo, .v (.one (.sc (.int k a))), .v (.one (.sc (.int k' b))) => k' = k ∧ b ≠ 0 ∧ vcArith k (a.tdiv b) st K
  | .rem, .v (.one (.sc (.int k a))), .v (.one (.sc (.int k' b))) => k' = k ∧ b ≠ 0 ∧ K (.sc (.int k (a.tmod b))) st
  | .eql, .v (.one (.sc (.int k a))), .v (.one (.sc (.int k' b))) => k' = k ∧ K (.bool (a == b)) st
  | .neq, .v (.one (.sc (.int k a))), .v (.one (.sc (.int k' b))) => k' = k ∧ K (.bool (a != b)) st
  | .lss, .v (.one (.sc (.int k a))), .v (.one (.sc (.int k' b))) => k' = k ∧ K (.bool (decide (a < b))) st
  | .leq, .v (.one (.sc (.int k a))), .v (.one (.sc (.int k' b))) => k' = k ∧ K (.bool (decide (a ≤ b))) st
  | .gtr, .v (.one (.sc (.int k a))), .v (.one (.sc (.int k' b))) => k' = k ∧ K (.bool (decide (a > b))) st
  | .geq, .v (.one (.sc (.int k a))), .v (.one (.sc (.int k' b))) => k' = k ∧ K (.bool (decide (a ≥ b))) st
  | .add, .v (.one (.sc (.string a))), .v (.one (.sc (.string b))) => a.size + b.size ≤ 9223372036854775807 ∧ K (.str (a ++ b)) st
  | .eql, .v (.one (.sc (.string a))), .v (.one (.sc (.string b))) => K (.bool (a.toList == b.toList)) st
  | .neq, .v (.one (.sc (.string a))), .v (.one (.sc (.string b))) => K (.bool (!(a.toList == b.toList))) st
  | .lss, .v (.one (.sc (.string a))), .v (.one (.sc (.string b))) => K (.bool (Op.bytesLess a.toList b.toList)) st
  | .leq, .v (.one (.sc (.string a))), .v (.one (.sc (.string b))) => K (.bool (Op.bytesLess a.toList b.toList || a.toList == b.toList)) st
  | .gtr, .v (.one (.sc (.string a))), .v (.one (.sc (.string b))) => K (.bool (!(Op.bytesLess a.toList b.toList || a.toList == b.toList))) st
  | .eql, .v (.one (.sc (.bool a))), .v (.one (.sc (.bool b))) => T.kd t = .bool ∧ K (.bool (a == b)) st
  | .eql, .ptr _ _, .v (.one (.sc (.pointer none))) => T.pt t = true ∧ K (.bool false) st
  | .eql, .v (.one (.sc (.pointer none))), .v (.one (.sc (.pointer none))) => T.pt t = true ∧ K (.bool true) st
  | .neq, .ptr s off, .ptr s' off' => (s' = s ∧ off' = off) ∧ T.pt t = true ∧ K (.bool false) st
  | .eql, .v (.agg cs), .v (.agg ds) => match T.ss t, strsOf cs, strsOf ds with
    | some n, some a, some b => a.length = n ∧ b.length = n ∧ K (.bool (eqStrs a b)) st
    | _, _, _ => False
  | .neq, .v (.agg cs), .v (.agg ds) => match T.ss t, strsOf cs, strsOf ds with
    | some n, some a, some b => a.length = n ∧ b.length = n ∧ K (.bool (!eqStrs a b)) st
    | _, _, _ => False
  | _, _, _ => False

def vcLoad (t : Nat) (x : AV) (st : List AO) (K : KO) : Prop :=
  match T.ld t, x with
  | some (n, true), .v (.one (.ref cells)) => n ≤ cells.length ∧ K (.agg (cells.take n)) st
  | some (_, false), .v (.one (.ref cells)) => match cells[0]? with
    | some d => K (.d d) st
    | none => False
  | some (n, true), .ptr s off => match st[s]? with
    | some (.box bT cells) => match toDs ((cells.drop off).take n) with
      | some ds => ds.length = n ∧ K (.agg ds) st
      | none => False
    | _ => False
  | some (_, false), .ptr s off => match st[s]? with
    | some (.box bT cells) => match cells[off]? with
      | some a => K a st
      | none => False
    | _ => False
  | some (n, true), .ep s v i off => match st[s]? with
    | some (.row v' e sz xs) => v = v' ∧ ∃ cells, xs[i]? = some cells ∧ off + n ≤ cells.length ∧ K (.agg ((cells.drop off).take n)) st
    | _ => False
  | some (_, false), .ep s v i off => match st[s]? with
    | some (.row v' e sz xs) => v = v' ∧ ∃ cells d, xs[i]? = some cells ∧ cells[off]? = some d ∧ K (.d d) st
    | _ => False
  | _, _ => False

def vcStore (t : Nat) (x y : AV) (st : List AO) (K : KO) : Prop :=
  match T.ld t, x, y with
  | some (n, true), .ptr s off, .v (.agg ds) => match st[s]? with
    | some (.box bT cells) => ds.length = n ∧ off + n ≤ cells.length ∧ K .junk (st.set s (.box bT (cells.take off ++ ds.map AV.d ++ cells.drop (off + n))))
    | _ => False
  | some (1, false), .ptr s off, a => match st[s]? with
    | some (.box bT cells) => okSingle st a ∧ off < cells.length ∧ K .junk (st.set s (.box bT (cells.take off ++ [a] ++ cells.drop (off + 1))))
    | _ => False
  | _, _, _ => False

/-- a store; a row of one's own may be given out with it -/
def vcStoreG (t : Nat) (x y : AV) (st : List AO) (K : KO) : Prop :=
  match y with
  | .h s k lo n => vcStore T t x (.h s k lo n) st K ∨ (match st[s]? with
    | some (.row k' e sz xs) => (k = k' ∧ lo = 0 ∧ n = xs.length) ∧ vcStore T t x (.list sz xs) (st.set s .gone) K
    | _ => False)
  | y => vcStore T t x y st K

def vcIndexAddr (t : Nat) (x i : AV) (st : List AO) (K : KO) : Prop :=
  match T.el t, x, i with
  | some (e, sz), .v (.one (.tl α sz' enc z xs)), .v (.one (.sc (.int _ n))) => sz' = sz ∧ 0 ≤ n ∧ n < xs.length ∧ K (.d (.ref (enc (xs.getD n.toNat z)))) st
  | some (e, sz), .v (.one (.list sz' xs)), .v (.one (.sc (.int _ n))) => sz' = sz ∧ 0 ≤ n ∧ ∃ cells, xs[n.toNat]? = some cells ∧ K (.d (.ref cells)) st
  | some (e, sz), .h s v lo m, .v (.one (.sc (.int _ n))) => match st[s]? with
    | some (.row v' e' sz' xs) => sz' = sz ∧ v = v' ∧ 0 ≤ n ∧ n < m ∧ K (.ep s v (lo + n.toNat) 0) st
    | _ => False
  | _, _, _ => False

def vcLo (E : Operand → AV) (o : Option Operand) (K : Nat → Prop) : Prop :=
  match o with
  | none => K 0
  | some x => match E x with
    | .v (.one (.sc (.int .i64 n))) => 0 ≤ n ∧ K n.toNat
    | _ => False
def vcHi (E : Operand → AV) (len : Nat) (o : Option Operand) (K : Nat → Prop) : Prop :=
  match o with
  | none => K len
  | some x => match E x with
    | .v (.one (.sc (.int .i64 n))) => 0 ≤ n ∧ K n.toNat
    | _ => False

def vcSlice (t : Nat) (x : AV) (lo hi : Option Operand) (E : Operand → AV) (st : List AO) (K : KO) : Prop :=
  match x with
  | .v (.one (.sc (.string s))) => T.kd t = .str ∧ vcLo E lo fun l => vcHi E s.size hi fun h => l ≤ h ∧ h ≤ s.size ∧ K (.str (s.extract l h)) st
  | .v (.one (.tl α sz enc z xs)) => match T.el t with
    | some (e, sz') => sz = sz' ∧ vcLo E lo fun l => vcHi E xs.length hi fun h => l ≤ h ∧ h ≤ xs.length ∧ K (.d (.tl α sz enc z ((xs.take h).drop l))) st
    | none => False
  | .v (.one (.list sz xs)) => match T.el t with
    | some (e, sz') => sz = sz' ∧ vcLo E lo fun l => vcHi E xs.length hi fun h => l ≤ h ∧ h ≤ xs.length ∧ K (.list sz ((xs.take h).drop l)) st
    | none => False
  | .h s k off n => match T.el t, st[s]? with
    | some (e, sz'), some (.row k' e' sz xs) => sz = sz' ∧ k = k' ∧ vcLo E lo fun l => vcHi E n hi fun h => l ≤ h ∧ h ≤ n ∧ K (.h s k (off + l) (h - l)) st
    | _, _ => False
  | _ => False

def srcRows (st : List AO) (sz : Nat) (a : AV) (K : List (List D) → Prop) : Prop :=
  match a with
  | .v (.one (.list sz' ys)) => sz' = sz ∧ K ys
  | .v (.one (.tl α sz' enc z ys)) => sz' = sz ∧ K (ys.map enc)
  | .v (.one .nils) => K []
  | .h s k lo n => match st[s]? with
    | some (.row k' e sz' xs) => sz' = sz ∧ k = k' ∧ K ((xs.drop lo).take n)
    | _ => False
  | _ => False

def vcAppend (t : Nat) (x y : AV) (st : List AO) (K : KO) : Prop :=
  match T.ap t, x with
  | some (e, sz, by_), .v (.one .nils) => srcRows st sz y fun ys => ys.length * by_ ≤ 140737488355328 ∧ ys.length ≤ maxLen ∧ K (.h st.length 0 0 ys.length) (st ++ [.row 0 e sz ys])
  | some (e, sz, by_), .v (.one (.full sz' xs)) => sz' = sz ∧ xs ≠ [] ∧ srcRows st sz y fun ys => ys ≠ [] ∧ (xs.length + ys.length) * by_ ≤ 140737488355328 ∧ xs.length + ys.length ≤ maxLen ∧ K (.h st.length 0 0 (xs.length + ys.length)) (st ++ [.row 0 e sz (xs ++ ys)])
  | some (e, sz, by_), .h s k lo n => match st[s]? with
    | some (.row k' e' sz' xs) => (k = k' ∧ e' = e ∧ sz' = sz ∧ lo = 0) ∧ srcRows st sz y fun ys => (n + ys.length) * by_ ≤ 140737488355328 ∧ n + ys.length ≤ maxLen ∧ K (.h s (k + 1) 0 (n + ys.length)) (st.set s (.row (k + 1) e sz (xs.take n ++ ys)))
    | _ => False
  | _, _ => False

def vcAppendS (t : Nat) (x : AV) (s : ByteArray) (st : List AO) (K : KO) : Prop :=
  match T.bb t, x with
  | some e, .v (.one .nils) => s.size ≤ 140737488351232 ∧ K (.h st.length 0 0 (strRows s).length) (st ++ [.row 0 e 1 (strRows s)])
  | some e, .h r k lo n => match st[r]? with
    | some (.row k' e' sz xs) => (k = k' ∧ e' = e ∧ sz = 1 ∧ lo = 0) ∧ n + s.size ≤ 140737488351232 ∧ K (.h r (k + 1) 0 (n + (strRows s).length)) (st.set r (.row (k + 1) e 1 (xs.take n ++ strRows s)))
    | _ => False
  | _, _ => False

def vcLen (t : Nat) (x : AV) (st : List AO) (K : KO) : Prop :=
  match T.kd t, x with
  | .slice _, .v (.one (.list _ xs)) => K (.int xs.length) st
  | .slice _, .v (.one (.tl _ _ _ _ xs)) => K (.int xs.length) st
  | .slice _, .v (.one .nils) => K (.int 0) st
  | .slice _, .h s k _ n => match st[s]? with
    | some (.row k' _ _ _) => k = k' ∧ K (.int n) st
    | _ => False
  | .str, .v (.one (.sc (.string s))) => K (.int s.size) st
  | _, _ => False

/-- rows of one's own among the arguments are given out -/
def sealK (st : List AO) : List AV → (List AO → List DV → Prop) → Prop
  | [], K => K st []
  | .v d :: r, K => sealK st r fun st' ds => K st' (d :: ds)
  | .h s k lo n :: r, K => match st[s]? with
    | some (.row k' e sz xs) => (k = k' ∧ lo = 0 ∧ n = xs.length) ∧ sealK (st.set s .gone) r fun st' ds => K st' (.one (.list sz xs) :: ds)
    | _ => False
  | _, _ => False

def scDV : DV → Bool
  | .one (.sc _) => true
  | _ => false

def vcCall (f : AV) (args : List AV) (st : List AO) (K : KO) : Prop :=
  match f with
  | .v (.one (.sc (.func (.func f) ⟨[]⟩ ⟨[]⟩))) => match T.ei f with
    | true => (match args with
      | [a] => K a st
      | _ => False)
    | false => T.cl f = true ∧ (match argsDV args with
    | some ds => ∃ ds' res, Impl P f ds' res ∧ AsLe ds ds' ∧ K (resAV res) st
    | none => (∃ res st', Eff P f args st res st' ∧ K (resAV res) st') ∨ (sealK st args fun st' ds => ∃ ds' res, Impl P f ds' res ∧ AsLe ds ds' ∧ K (resAV res) st') ∨
      (sealK st args fun _ ds => ∃ ds' res, Impl P f ds' res ∧ AsLe ds ds' ∧ res.all scDV = true ∧ K (resAV res) st))
  | _ => False

def vcConv (s d : Nat) (x : AV) (st : List AO) (K : KO) : Prop :=
  match T.kd s, T.kd d, x with
  | .other, .other, .ptr i 0 => match st[i]?, T.cv s d with
    | some (.box bT cells), some (b, n) => (b = bT ∧ n = cells.length) ∧ K (.ptr i 0) st
    | _, _ => False
  | .int k', .int k, .v (.one (.sc (.int k2 n))) => k2 = k' ∧ K (.sc (.int k (k.wrap n))) st
  | .slice e, .str, a => T.kd e = .int .u8 ∧ srcRows st 1 a fun ys => ∃ ns : List Int, ys = ns.map byteRow ∧ K (.str ⟨(ns.map fun n => UInt8.ofNat n.toNat).toArray⟩) st
  | _, _, _ => False

def vcOp (op : Op) (E : Operand → AV) (st : List AO) (K : KO) : Prop :=
  match op with
  | .move x => force (E x) fun v => K v st
  | .assign x => force (E x) fun v => K v st
  | .pick c a b => match E c with
    | .v (.one (.sc (.bool b'))) => (b' = true → force (E a) fun v => K v st) ∧ (b' = false → force (E b) fun v => K v st)
    | _ => False
  | .binOp op t x y _ => vcBin T op t (E x) (E y) st K
  | .unOp .not _ x => match E x with
    | .v (.one (.sc (.bool b))) => K (.bool (!b)) st
    | _ => False
  | .convert s d x => vcConv T s d (E x) st K
  | .alloc t => match T.zb t with
    | some cells => K (.ptr st.length 0) (st ++ [.box t cells])
    | none => False
  | .box t x => match E x with
    | .v (.agg ds) => K (.ptr st.length 0) (st ++ [.box t (ds.map AV.d)])
    | a => okSingle st a ∧ K (.ptr st.length 0) (st ++ [.box t [a]])
  | .build t parts => match T.zd t, T.bt t with
    | some zs, some ps => match fillD (ps[·]?) zs (parts.toList.map fun p => (p.1, E p.2)) with
      | some ds => K (.agg ds) st
      | none => False
    | _, _ => False
  | .buildSlice t 0 ⟨[]⟩ => match T.el t with
    | some (e, sz) => K (.h st.length 0 0 0) (st ++ [.row 0 e sz []])
    | none => False
  | .buildSlice t len parts => match T.el t with
    | some (e, sz) => match T.zd e with
      | some zs => match fillD (fun i => some (i * sz, sz)) ((List.range (len * sz)).map fun i => zs.getD (i % sz) .nils) (parts.toList.map fun p => (p.1, E p.2)) with
        | some ds => zs.length = sz ∧ 0 < len * sz ∧ len * sz ≤ 16777216 ∧ ds.length = len * sz ∧ (K (.list sz (chunk sz ds len)) st ∨ K (.d (.full sz (chunk sz ds len))) st)
        | none => False
      | none => False
    | none => False
  | .load t a => vcLoad T t (E a) st K
  | .store t a x => vcStoreG T t (E a) (E x) st K
  | .fieldAddr s x f => match T.fo s f, E x with
    | some k, .ptr i off => K (.ptr i (off + k)) st
    | some k, .v (.one (.ref cells)) => K (.d (.ref (cells.drop k))) st
    | some k, .ep i v j off => match st[i]? with
      | some (.row v' _ _ _) => v = v' ∧ K (.ep i v j (off + k)) st
      | _ => False
    | _, _ => False
  | .indexAddr t x i => vcIndexAddr T t (E x) (E i) st K
  | .index t x i => match E x, E i with
    | .v (.one (.sc (.string s))), .v (.one (.sc (.int _ n))) => T.kd t = .str ∧ 0 ≤ n ∧ n < s.size ∧ K (.byte (byteAt s n.toNat)) st
    | _, _ => False
  | .slice t x lo hi none => vcSlice T t (E x) lo hi E st K
  | .extract x i => match E x with
    | .tup vs => match vs[i]? with
      | some d => K (.v d) st
      | none => False
    | _ => False
  | .makeFunc (.func f) ⟨[]⟩ ⟨[]⟩ => K (fnAV f) st
  | .call { callee := .value x, args := args, .. } => vcCall P T (E x) (args.toList.map E) st K
  | .call { callee := .builtin .len, args := ⟨[x]⟩, argTypes := ⟨[t]⟩ } => vcLen T t (E x) st K
  | .call { callee := .builtin .append, args := ⟨[x, y]⟩, argTypes := ⟨[t, t']⟩ } => match E y with
    | .v (.one (.sc (.string s))) => T.kd t' = .str ∧ vcAppendS T t (E x) s st K
    | y => t' = t ∧ vcAppend T t (E x) y st K
  | .nilCheck x => match E x with
    | .ptr s off => K (.ptr s off) st
    | .v (.one (.ref cells)) => K (.d (.ref cells)) st
    | _ => False
  | .makeMap t none => K (.omap st.length) (st ++ [.mp []])
  | .lookup t x i false => match E x, E i with
    | .omap s, .v (.one (.sc (.string k))) => match st[s]? with
      | some (.mp es) => ∃ zd l d, mapT P t = some zd ∧ es = l.map strE ∧ lookD zd k l = d ∧ K (.d d) st
      | _ => False
    | _, _ => False
  | .mapUpdate t x i y => match E x, E i, E y with
    | .omap s, .v (.one (.sc (.string k))), .v (.one d) => match st[s]? with
      | some (.mp es) => ∃ zd l, mapT P t = some zd ∧ es = l.map strE ∧ K .junk (st.set s (.mp ((updD k d l).map strE)))
      | _ => False
    | _, _, _ => False
  | _ => False

/-- .. or one of which one of two things comes: whether a list is nil -/
def vcOp2 (op : Op) (E : Operand → AV) (st : List AO) (K : KO) : Prop :=
  match op with
  | .binOp .eql t x (.const (.slice none 0 0)) _ => match T.kd t, E x with
    | .slice _, .v (.one (.tl _ _ _ _ xs)) => (xs = [] → K (.bool true) st) ∧ K (.bool false) st
    | .slice _, .v (.one (.list _ xs)) => (xs = [] → K (.bool true) st) ∧ K (.bool false) st
    | .slice _, .v (.one .nils) => K (.bool true) st
    | _, _ => False
  | op => vcOp P T op E st K

/-- operations in their order -/
def vcL (ops : List Oper) : List Oper → Env → List AO → (Env → List AO → Prop) → Prop
  | [], env, st, K => K env st
  | o :: rest, env, st, K => match o.guard with
    | none => vcOp2 P T o.op (evalE env) st fun v st' => vcL ops rest (updO env o.dst v) st' K
    | some (j, want) => match ops[j]? with
      | some oj => match oj.dst with
        | some d => match env d with
          | .v (.one (.sc (.bool b))) => d < N.n ∧ (b = want → vcOp P T o.op (evalE env) st fun v st' => vcL ops rest (updO env o.dst v) st' K) ∧ (b ≠ want → vcL ops rest (updO env o.dst .junk) st K)
          | _ => False
        | none => False
      | none => False

/-- operations in an open order: none turns an own thing -/
def vcQ (ops : List Oper) (st : List AO) : List Oper → Env → (Env → Prop) → Prop
  | [], env, K => K env
  | o :: rest, env, K => match o.guard with
    | none => vcOp P T o.op (evalE env) st fun v st' => st' = st ∧ vcQ ops st rest (updO env o.dst v) K
    | some (j, want) => match ops[j]? with
      | some oj => match oj.dst with
        | some d => match env d with
          | .v (.one (.sc (.bool b))) => d < N.n ∧ (b = want → vcOp P T o.op (evalE env) st fun v st' => st' = st ∧ vcQ ops st rest (updO env o.dst v) K) ∧ (b ≠ want → vcQ ops st rest (updO env o.dst .junk) K)
          | _ => False
        | none => False
      | none => False

def vc : Code → Env → List AO → Post → Prop
  | .skip, env, st, Q => Q .normal env st
  | .label _, env, st, Q => Q .normal env st
  | .exit l, env, st, Q => Q (.exit l) env st
  | .goto l, env, st, Q => Q (.goto l) env st
  | .ret, env, st, Q => Q .ret env st
  | .seq (.label l) y, env, st, Q => WP P N (.seq (.label l) y) env st Q
  | .seq x y, env, st, Q => vc x env st (Then (fun env st => vc y env st Q) Q)
  | .cond c x y, env, st, Q => match evalE env c with
    | .v (.one (.sc (.bool b))) => (b = true → vc x env st Q) ∧ (b = false → vc y env st Q)
    | _ => False
  | .block id c, env, st, Q => vc c env st (InBlock id Q)
  | .region _ ops false, env, st, Q => vcL P T N ops.toList ops.toList env st (Q .normal)
  | .region _ ops true, env, st, Q => vcQ P T N ops.toList st ops.toList env fun env => Q .normal env st
  | c, env, st, Q => WP P N c env st Q

/-- every slot that is written is there; every open region may be run in its text's order -/
def codeOk (N : Fm) : Code → Bool
  | .region _ ops draw => ops.all (fun o => match o.dst with | some d => decide (d < N.n) | none => true) && (!draw || Region.lexB .any ops)
  | .seq a b => codeOk N a && codeOk N b
  | .cond _ a b => codeOk N a && codeOk N b
  | .block _ c => codeOk N c
  | _ => true

end
end Go.Proofs.Nw.K
