/- K14: more operations: typed lists, quotients, bytes and strings, structs held against each other. -/
import Derived.Test.YtjfpnnmagnljnaaNwK13
import Derived.Laws.StructEq
open Go Go.RowKit
set_option linter.unusedVariables false
set_option linter.unusedSimpArgs false
namespace Go.Proofs.Nw.K

section
variable {P : Program} {E : Operand → AV} {st : List AO}

theorem tl_list {σ : Sig} {gh} {u : Value} {α : Type} {sz : Nat} {enc : α → List D} {z : α} {xs : List α} (h : RepA σ gh st u (.d (.tl α sz enc z xs))) : RepA σ gh st u (.list sz (xs.map enc)) := by
  have h : Rep σ u (.tl α sz enc z xs) := h
  cases h with
  | tl h => exact h

/-- an operation on a typed list is that on the list -/
theorem OpS.of_list {op : Op} {v st'} (E' : Operand → AV) (h : OpS P op E' st v st') (he : ∀ x, E' x = E x ∨ ∃ (α : Type) (sz : Nat) (enc : α → List D) (z : α) (xs : List α), E x = .d (.tl α sz enc z xs) ∧ E' x = .list sz (xs.map enc)) : OpS P op E st v st' :=
  fun o ho w0 σ0 σ gh ρ w hb hr => h o ho w0 σ0 σ gh ρ w hb fun x hx => by
    rcases he x with h1 | ⟨α, sz, enc, z, xs, h1, h2⟩
    · rw [h1]; exact hr x hx
    · rw [h2]; have := hr x hx; rw [h1] at this; exact tl_list this

/-- typed lists taken as lists -/
def unT : AV → AV
  | .v (.one (.tl α sz enc z xs)) => .list sz (xs.map enc)
  | a => a

theorem unT_spec (a : AV) : unT a = a ∨ ∃ (α : Type) (sz : Nat) (enc : α → List D) (z : α) (xs : List α), a = .d (.tl α sz enc z xs) ∧ unT a = .list sz (xs.map enc) := by
  unfold unT
  split
  · exact .inr ⟨_, _, _, _, _, rfl, rfl⟩
  · exact .inl rfl

theorem OpS.unT {op : Op} {v st'} (h : OpS P op (fun x => unT (E x)) st v st') : OpS P op E st v st' :=
  h.of_list _ fun x => unT_spec (E x)

theorem op_indexAddr_tl (t e : TypeId) (x i : Operand) (k : IntKind) (n : Int) (α : Type) (sz : Nat) (enc : α → List D) (z : α) (xs : List α) (ht : elT P t = some (e, sz)) (hx : E x = .d (.tl α sz enc z xs)) (hi : E i = .sc (.int k n))
    (h0 : 0 ≤ n) (h1 : n < xs.length) : OpS P (.indexAddr t x i) E st (.d (.ref (enc (xs.getD n.toNat z)))) st := by
  refine OpS.unT (op_indexAddr t e sz x i k n (xs.map enc) _ ht (by simp [K.unT, hx]) (by simp [K.unT, hi]) h0 ?_)
  have : n.toNat < xs.length := by omega
  simp [List.getD, this]

theorem tl_of {σ : Sig} {gh} {u : Value} {α : Type} {sz : Nat} {enc : α → List D} (z : α) {xs : List α} {ys : List (List D)} (h : RepA σ gh st u (.list sz ys)) (e : ys = xs.map enc) : RepA σ gh st u (.d (.tl α sz enc z xs)) := by
  subst e
  exact Rep.tl h

theorem op_slice_tl (t e : TypeId) (x : Operand) (lo hi : Option Operand) (l h : Nat) (α : Type) (sz : Nat) (enc : α → List D) (z : α) (xs : List α) (ht : elT P t = some (e, sz)) (hx : E x = .d (.tl α sz enc z xs))
    (hl : loIs E l lo) (hh : hiIs E xs.length h hi) (h1 : l ≤ h) (h2 : h ≤ xs.length) : OpS P (.slice t x lo hi none) E st (.d (.tl α sz enc z ((xs.take h).drop l))) st := by
  intro o ho w0 σ0 σ gh ρ w hb hρ
  have hop : OpS P (.slice t x lo hi none) E st (.list sz (((xs.map enc).take h).drop l)) st := by
    refine OpS.unT (op_slice_list t e sz x lo hi l h (xs.map enc) ht (by simp [K.unT, hx]) ?_ ?_ h1 (by simpa using h2))
    · cases lo with
      | none => exact hl
      | some ol => obtain ⟨m, f1, f2, f3⟩ := hl; exact ⟨m, by simp [K.unT, f1], f2, f3⟩
    · cases hi with
      | none => simpa [hiIs] using hh
      | some ol => obtain ⟨m, f1, f2, f3⟩ := hh; exact ⟨m, by simp [K.unT, f1], f2, f3⟩
  have := hop o ho w0 σ0 σ gh ρ w hb hρ
  generalize (execOp ρ o).run P w = r at *
  cases r with
  | ok n w' =>
    cases n with
    | value u =>
      obtain ⟨σ', gh', hf, hv⟩ := this
      exact ⟨σ', gh', hf, tl_of z hv (by simp)⟩
    | skip => obtain ⟨h, _⟩ := this; cases h
    | enter f args => exact Calls.mono this fun e w'' ⟨u, h1, σ', gh', hf, hv⟩ => ⟨u, h1, σ', gh', hf, tl_of z hv (by simp)⟩
    | _ => exact this.elim
  | halt _ _ => exact this.elim

theorem op_quo (t ty : TypeId) (x y : Operand) (k : IntKind) (a b : Int) (hx : E x = .sc (.int k a)) (hy : E y = .sc (.int k b)) (h : b ≠ 0) : OpS P (.binOp .quo t x y ty) E st (.sc (.int k (k.wrap (a.tdiv b)))) st :=
  op_bin _ _ _ _ _ _ _ _ hx hy (fun w => by simp [binOp_quo, Op.intDiv, h]) (by simp [eqGuard_at_int]) rfl
theorem op_rem (t ty : TypeId) (x y : Operand) (k : IntKind) (a b : Int) (hx : E x = .sc (.int k a)) (hy : E y = .sc (.int k b)) (h : b ≠ 0) : OpS P (.binOp .rem t x y ty) E st (.sc (.int k (a.tmod b))) st :=
  op_bin _ _ _ _ _ _ _ _ hx hy (fun w => by simp [binOp_rem, Op.intDiv, h]) (by simp [eqGuard_at_int]) rfl

def byteRow (n : Int) : List D := [.sc (.int .u8 n)]

theorem run_bytesToString (w : World) (A : Option Addr) (c : Nat) (ns : List Int) (h : ns = [] ∨ ∃ ad, A = some ad ∧ ∀ (j : Nat) v, (ns.map fun n => Value.int .u8 n)[j]? = some v → w.cell? (ad.add j) = some v) :
    (Conv.bytesToString (.slice A ns.length c)).run P w = .ok (.string ⟨(ns.map fun n => UInt8.ofNat n.toNat).toArray⟩) w := by
  have key : ∀ (l : List Int) (s : ByteArray), List.foldl (fun (b : ByteArray) (a : Int) => b.push (UInt8.ofNat a.toNat)) s l = ⟨s.data ++ (l.map fun n => UInt8.ofNat n.toNat).toArray⟩ := by
    intro l
    induction l with
    | nil => intro s; simp
    | cons n l ih =>
      intro s
      simp only [List.map_cons, List.foldl_cons]
      rw [ih]
      congr 1
      apply Array.ext'
      simp [ByteArray.push]
  rcases h with rfl | ⟨ad, rfl, hc⟩
  · cases A with
    | none => simp [Conv.bytesToString]; rfl
    | some ad => simp [Conv.bytesToString, loadCells, loadCellsFrom]; rfl
  · have hl := run_loadCells_list (P := P) w ad (ns.map fun n => Value.int .u8 n) hc
    simp only [List.length_map] at hl
    simp only [Conv.bytesToString, Sem.run_bind, hl, Result.andThen_ok]
    rw [← Array.forIn_toList]
    have := key ns ByteArray.empty
    simp [this]

theorem op_bytesToString (s d e : TypeId) (x : Operand) (ns : List Int) (hs : P.underlying s = some (.slice e)) (he : P.underlying e = some (.int .u8)) (hd : P.underlying d = some .string) (hx : Src st (E x) 1 (ns.map byteRow)) :
    OpS P (.convert s d x) E st (.str ⟨(ns.map fun n => UInt8.ofNat n.toNat).toArray⟩) st :=
  op_pure fun o ho w0 σ0 σ gh ρ w hb hρ => by
    have h1 := hρ x (by simp [Op.operands])
    obtain ⟨A, c, hv, hc⟩ := src_cells hb h1 hx
    simp only [List.length_map] at hv hc
    have hrun := run_bytesToString (P := P) w A c ns (by
      rcases hc with h | ⟨ad, news, h2, h3, h4, h5, h6⟩
      · exact .inl (by simpa using h)
      · refine .inr ⟨ad, h2, fun j v hj => h4 j v ?_⟩
        simp only [List.getElem?_map, Option.map_eq_some_iff] at hj
        obtain ⟨n, hn, rfl⟩ := hj
        obtain ⟨v, h7, h8⟩ := h6.2 j 0 (byteRow n) (.sc (.int .u8 n)) (by simp [hn]) rfl
        cases h8
        simpa using h7)
    exact ⟨_, by simp [execOp, ho, convert, run_underlying hs, run_underlying hd, run_underlying he, hv, hrun], RepA_of_sc rfl⟩

/-! ### structs of strings held against each other -/
def strFields (P : Program) (n : Nat) : List Field → Bool
  | [] => true
  | f :: r => f.name != "_" && f.offset == n && (match P.underlying f.type with | some .string => true | _ => false) && strFields P (n + 1) r

def strStruct (P : Program) (t : TypeId) : Option Nat :=
  match P.underlying t with
  | some (.struct fs) => if strFields P 0 fs.toList && !P.stoodInHeld t && !P.eqGuardType P.depth t then some fs.size else none
  | _ => none

def strsOf : List D → Option (List ByteArray)
  | [] => some []
  | .sc (.string s) :: r => match strsOf r with | some ss => some (s :: ss) | none => none
  | _ => none

def eqStrs : List ByteArray → List ByteArray → Bool
  | [], [] => true
  | a :: x, b :: y => (a.toList == b.toList) && eqStrs x y
  | _, _ => false

theorem strsOf_rep {σ : Sig} : ∀ {ds : List D} {ss : List ByteArray} {vs : List Value}, strsOf ds = some ss → RepL σ vs ds → vs = ss.map Value.string
  | [], ss, vs, h, hr => by cases h; exact List.eq_nil_of_length_eq_zero hr.1
  | d :: ds, ss, vs, h, hr => by
    unfold strsOf at h
    split at h
    · rename_i heq; cases heq
    · rename_i s r heq
      cases heq
      split at h <;> try cases h
      rename_i ss' hss
      cases vs with
      | nil => have := hr.1; simp at this
      | cons v vs =>
        have h0 := hr.2 0 v _ rfl rfl
        cases h0
        rw [strsOf_rep (vs := vs) hss ⟨by have := hr.1; simpa using this, fun i v d hv hd => hr.2 (i + 1) v d (by simpa using hv) (by simpa using hd)⟩]
        rfl
    · cases h

theorem eqFields_run {w : World} (d : Nat) : ∀ (fs : List Field) (n : Nat) (pre1 pre2 a b : List ByteArray), strFields P n fs = true → pre1.length = n → pre2.length = n → a.length = fs.length → b.length = fs.length →
    (Op.eqFields (d + 1) ((pre1 ++ a).map Value.string).toArray ((pre2 ++ b).map Value.string).toArray fs).run P w = .ok (eqStrs a b) w
  | [], n, pre1, pre2, a, b, h, h1, h2, h3, h4 => by
    have : a = [] := List.eq_nil_of_length_eq_zero h3
    have : b = [] := List.eq_nil_of_length_eq_zero h4
    subst a b
    simp [Op.eqFields, eqStrs]
  | f :: fs, n, pre1, pre2, a, b, h, h1, h2, h3, h4 => by
    unfold strFields at h
    simp only [Bool.and_eq_true, bne_iff_ne, beq_iff_eq] at h
    obtain ⟨⟨⟨e1, e2⟩, e3⟩, e4⟩ := h
    cases a with
    | nil => simp at h3
    | cons x a =>
      cases b with
      | nil => simp at h4
      | cons y b =>
        have hu : P.underlying f.type = some .string := by
          split at e3
          · assumption
          · cases e3
        have hp : ∀ (pre : List ByteArray) (z : ByteArray) (c : List ByteArray), pre.length = n → (part f.type ((pre ++ z :: c).map Value.string).toArray f.offset).run P w = .ok (.string z) w := by
          intro pre z c hl
          have hg : (((pre ++ z :: c).map Value.string).toArray)[f.offset]? = some (.string z) := by
            rw [e2, ← hl]; simp
          simp only [part, isAgg, Sem.run_bind, run_underlying hu, Result.andThen_ok, Sem.run_pure, Bool.false_eq_true, if_false, hg]
        simp only [Op.eqFields, e1, ne_eq, not_false_eq_true, if_true, Sem.run_bind, hp pre1 x a h1, hp pre2 y b h2, Result.andThen_ok, run_equalIn_string w d f.type x y hu]
        by_cases hxy : x.toList == y.toList
        · have ih := eqFields_run (w := w) d fs (n + 1) (pre1 ++ [x]) (pre2 ++ [y]) a b e4 (by simp [h1]) (by simp [h2]) (by simpa using h3) (by simpa using h4)
          simp only [List.append_assoc, List.singleton_append] at ih
          simp only [hxy, Bool.not_true, Bool.false_eq_true, if_false, ih, eqStrs, Bool.true_and]
        · simp [hxy, eqStrs]

theorem op_aggeq (neg : Bool) (t ty : TypeId) (x y : Operand) (n : Nat) (cs ds : List D) (a b : List ByteArray) (ht : strStruct P t = some n) (hx : E x = .agg cs) (hy : E y = .agg ds) (ha : strsOf cs = some a) (hb : strsOf ds = some b)
    (hla : a.length = n) (hlb : b.length = n) : OpS P (.binOp (if neg then .neq else .eql) t x y ty) E st (.bool (if neg then !eqStrs a b else eqStrs a b)) st :=
  op_pure fun o ho w0 σ0 σ gh ρ w hbase hρ => by
    have h1 := hρ x (by simp [Op.operands])
    have h2 := hρ y (by simp [Op.operands])
    rw [hx] at h1
    rw [hy] at h2
    obtain ⟨us, e1, r1⟩ := h1
    obtain ⟨vs, e2, r2⟩ := h2
    have e3 := strsOf_rep ha r1
    have e4 := strsOf_rep hb r2
    subst e3 e4
    unfold strStruct at ht
    split at ht <;> try cases ht
    rename_i fs hu
    split at ht <;> try cases ht
    rename_i hc
    simp only [Bool.and_eq_true, Bool.not_eq_true'] at hc
    obtain ⟨⟨c1, c2⟩, c3⟩ := hc
    have hS : P.underlying t = some (.struct (P.fieldsOf t)) := by simp [Program.fieldsOf, hu]
    have hfs : P.fieldsOf t = fs := by simp [Program.fieldsOf, hu]
    have hr := eqFields_run (P := P) (w := w) 9998 fs.toList 0 [] [] a b c1 rfl rfl (by simpa using hla) (by simpa using hlb)
    simp only [List.nil_append] at hr
    have heq : (Op.equalIn 10000 t (.agg (a.map Value.string).toArray) (.agg (b.map Value.string).toArray)).run P w = .ok (eqStrs a b) w := by
      rw [show (10000 : Nat) = 9999 + 1 from rfl, run_equalIn_agg w 9999 t _ _ hS c2, hfs]; exact hr
    have hg : ∀ op, (eqGuard op t x y (.agg (a.map Value.string).toArray) (.agg (b.map Value.string).toArray)).run P w = .ok () w := fun op => run_eqGuard_agg w op t x y _ _ c3
    cases neg
    · refine ⟨.bool (eqStrs a b), ?_, RepA_of_sc rfl⟩
      simp only [execOp, ho, e1, e2, Bool.false_eq_true, if_false, Sem.run_bind, hg, Result.andThen_ok, run_eql_struct, heq, Sem.run_pure]
    · refine ⟨.bool (!eqStrs a b), ?_, RepA_of_sc rfl⟩
      simp only [execOp, ho, e1, e2, if_true, Sem.run_bind, hg, Result.andThen_ok, run_neq_struct, heq, Sem.run_pure]

end
end Go.Proofs.Nw.K
