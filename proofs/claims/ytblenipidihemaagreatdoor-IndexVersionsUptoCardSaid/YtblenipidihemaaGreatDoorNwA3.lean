/- Bundle 3: NwK14, NwK20, NwK23, NwK26, NwK27, NwK15. -/
import Derived.Test.YtblenipidihemaaGreatDoorNwA2
import Derived.Laws.StructEq
import Derived.Lib.AppendStr
import Derived.Lib.Builder
import Derived.Laws.Pointers
import Derived.Laws.Externs
import Derived.MapKept
import Derived.Carry
import Derived.Lib.ConvBytes
section
/- K14: more operations: typed lists, quotients, bytes and strings, structs held against each other. -/
open Go Go.RowKit
set_option linter.unusedVariables false
set_option linter.unusedSimpArgs false
namespace Go.Proofs.Nw.K

section
variable {P : Program} {E : Operand → AV} {st : List AO}

theorem tl_list {σ : Sig} {gh} {u : Value} {α : Type} {sz : Nat} {enc : α → List D} {z : α} {xs : List α} (h : RepA σ gh st u (.d (.tl α sz enc z xs))) : RepA σ gh st u (.list sz (xs.map enc)) := by
  have h : Rep σ u (.tl α sz enc z xs) := h
  cases h with
  | tl h => exact h

/-- an operation on a typed list is that on the list -/
theorem OpS.of_list {op : Op} {v st'} (E' : Operand → AV) (h : OpS P op E' st v st') (he : ∀ x, E' x = E x ∨ ∃ (α : Type) (sz : Nat) (enc : α → List D) (z : α) (xs : List α), E x = .d (.tl α sz enc z xs) ∧ E' x = .list sz (xs.map enc)) : OpS P op E st v st' :=
  fun o ho w0 σ0 σ gh ρ w hb hr => h o ho w0 σ0 σ gh ρ w hb fun x hx => by
    rcases he x with h1 | ⟨α, sz, enc, z, xs, h1, h2⟩
    · rw [h1]; exact hr x hx
    · rw [h2]; have := hr x hx; rw [h1] at this; exact tl_list this

/-- typed lists taken as lists -/
def unT : AV → AV
  | .v (.one (.tl α sz enc z xs)) => .list sz (xs.map enc)
  | a => a

theorem unT_spec (a : AV) : unT a = a ∨ ∃ (α : Type) (sz : Nat) (enc : α → List D) (z : α) (xs : List α), a = .d (.tl α sz enc z xs) ∧ unT a = .list sz (xs.map enc) := by
  unfold unT
  split
  · exact .inr ⟨_, _, _, _, _, rfl, rfl⟩
  · exact .inl rfl

theorem OpS.unT {op : Op} {v st'} (h : OpS P op (fun x => unT (E x)) st v st') : OpS P op E st v st' :=
  h.of_list _ fun x => unT_spec (E x)

theorem op_indexAddr_tl (t e : TypeId) (x i : Operand) (k : IntKind) (n : Int) (α : Type) (sz : Nat) (enc : α → List D) (z : α) (xs : List α) (ht : elT P t = some (e, sz)) (hx : E x = .d (.tl α sz enc z xs)) (hi : E i = .sc (.int k n))
    (h0 : 0 ≤ n) (h1 : n < xs.length) : OpS P (.indexAddr t x i) E st (.d (.ref (enc (xs.getD n.toNat z)))) st := by
  refine OpS.unT (op_indexAddr t e sz x i k n (xs.map enc) _ ht (by simp [K.unT, hx]) (by simp [K.unT, hi]) h0 ?_)
  have : n.toNat < xs.length := by omega
  simp [List.getD, this]

theorem tl_of {σ : Sig} {gh} {u : Value} {α : Type} {sz : Nat} {enc : α → List D} (z : α) {xs : List α} {ys : List (List D)} (h : RepA σ gh st u (.list sz ys)) (e : ys = xs.map enc) : RepA σ gh st u (.d (.tl α sz enc z xs)) := by
  subst e
  exact Rep.tl h

theorem op_slice_tl (t e : TypeId) (x : Operand) (lo hi : Option Operand) (l h : Nat) (α : Type) (sz : Nat) (enc : α → List D) (z : α) (xs : List α) (ht : elT P t = some (e, sz)) (hx : E x = .d (.tl α sz enc z xs))
    (hl : loIs E l lo) (hh : hiIs E xs.length h hi) (h1 : l ≤ h) (h2 : h ≤ xs.length) : OpS P (.slice t x lo hi none) E st (.d (.tl α sz enc z ((xs.take h).drop l))) st := by
  intro o ho w0 σ0 σ gh ρ w hb hρ
  have hop : OpS P (.slice t x lo hi none) E st (.list sz (((xs.map enc).take h).drop l)) st := by
    refine OpS.unT (op_slice_list t e sz x lo hi l h (xs.map enc) ht (by simp [K.unT, hx]) ?_ ?_ h1 (by simpa using h2))
    · cases lo with
      | none => exact hl
      | some ol => obtain ⟨m, f1, f2, f3⟩ := hl; exact ⟨m, by simp [K.unT, f1], f2, f3⟩
    · cases hi with
      | none => simpa [hiIs] using hh
      | some ol => obtain ⟨m, f1, f2, f3⟩ := hh; exact ⟨m, by simp [K.unT, f1], f2, f3⟩
  have := hop o ho w0 σ0 σ gh ρ w hb hρ
  generalize (execOp ρ o).run P w = r at *
  cases r with
  | ok n w' =>
    cases n with
    | value u =>
      obtain ⟨σ', gh', hf, hv⟩ := this
      exact ⟨σ', gh', hf, tl_of z hv (by simp)⟩
    | skip => obtain ⟨h, _⟩ := this; cases h
    | enter f args => exact Calls.mono this fun e w'' ⟨u, h1, σ', gh', hf, hv⟩ => ⟨u, h1, σ', gh', hf, tl_of z hv (by simp)⟩
    | _ => exact this.elim
  | halt _ _ => exact this.elim

theorem op_quo (t ty : TypeId) (x y : Operand) (k : IntKind) (a b : Int) (hx : E x = .sc (.int k a)) (hy : E y = .sc (.int k b)) (h : b ≠ 0) : OpS P (.binOp .quo t x y ty) E st (.sc (.int k (k.wrap (a.tdiv b)))) st :=
  op_bin _ _ _ _ _ _ _ _ hx hy (fun w => by simp [binOp_quo, Op.intDiv, h]) (by simp [eqGuard_at_int]) rfl
theorem op_rem (t ty : TypeId) (x y : Operand) (k : IntKind) (a b : Int) (hx : E x = .sc (.int k a)) (hy : E y = .sc (.int k b)) (h : b ≠ 0) : OpS P (.binOp .rem t x y ty) E st (.sc (.int k (a.tmod b))) st :=
  op_bin _ _ _ _ _ _ _ _ hx hy (fun w => by simp [binOp_rem, Op.intDiv, h]) (by simp [eqGuard_at_int]) rfl

def byteRow (n : Int) : List D := [.sc (.int .u8 n)]

theorem run_bytesToString (w : World) (A : Option Addr) (c : Nat) (ns : List Int) (h : ns = [] ∨ ∃ ad, A = some ad ∧ ∀ (j : Nat) v, (ns.map fun n => Value.int .u8 n)[j]? = some v → w.cell? (ad.add j) = some v) :
    (Conv.bytesToString (.slice A ns.length c)).run P w = .ok (.string ⟨(ns.map fun n => UInt8.ofNat n.toNat).toArray⟩) w := by
  have key : ∀ (l : List Int) (s : ByteArray), List.foldl (fun (b : ByteArray) (a : Int) => b.push (UInt8.ofNat a.toNat)) s l = ⟨s.data ++ (l.map fun n => UInt8.ofNat n.toNat).toArray⟩ := by
    intro l
    induction l with
    | nil => intro s; simp
    | cons n l ih =>
      intro s
      simp only [List.map_cons, List.foldl_cons]
      rw [ih]
      congr 1
      apply Array.ext'
      simp [ByteArray.push]
  rcases h with rfl | ⟨ad, rfl, hc⟩
  · cases A with
    | none => simp [Conv.bytesToString]; rfl
    | some ad => simp [Conv.bytesToString, loadCells, loadCellsFrom]; rfl
  · have hl := run_loadCells_list (P := P) w ad (ns.map fun n => Value.int .u8 n) hc
    simp only [List.length_map] at hl
    simp only [Conv.bytesToString, Sem.run_bind, hl, Result.andThen_ok]
    rw [← Array.forIn_toList]
    have := key ns ByteArray.empty
    simp [this]

theorem op_bytesToString (s d e : TypeId) (x : Operand) (ns : List Int) (hs : P.underlying s = some (.slice e)) (he : P.underlying e = some (.int .u8)) (hd : P.underlying d = some .string) (hx : Src st (E x) 1 (ns.map byteRow)) :
    OpS P (.convert s d x) E st (.str ⟨(ns.map fun n => UInt8.ofNat n.toNat).toArray⟩) st :=
  op_pure fun o ho w0 σ0 σ gh ρ w hb hρ => by
    have h1 := hρ x (by simp [Op.operands])
    obtain ⟨A, c, hv, hc⟩ := src_cells hb h1 hx
    simp only [List.length_map] at hv hc
    have hrun := run_bytesToString (P := P) w A c ns (by
      rcases hc with h | ⟨ad, news, h2, h3, h4, h5, h6⟩
      · exact .inl (by simpa using h)
      · refine .inr ⟨ad, h2, fun j v hj => h4 j v ?_⟩
        simp only [List.getElem?_map, Option.map_eq_some_iff] at hj
        obtain ⟨n, hn, rfl⟩ := hj
        obtain ⟨v, h7, h8⟩ := h6.2 j 0 (byteRow n) (.sc (.int .u8 n)) (by simp [hn]) rfl
        cases h8
        simpa using h7)
    exact ⟨_, by simp [execOp, ho, convert, run_underlying hs, run_underlying hd, run_underlying he, hv, hrun], RepA_of_sc rfl⟩

/-! ### structs of strings held against each other -/
def strFields (P : Program) (n : Nat) : List Field → Bool
  | [] => true
  | f :: r => f.name != "_" && f.offset == n && (match P.underlying f.type with | some .string => true | _ => false) && strFields P (n + 1) r

def strStruct (P : Program) (t : TypeId) : Option Nat :=
  match P.underlying t with
  | some (.struct fs) => if strFields P 0 fs.toList && !P.stoodInHeld t && !P.eqGuardType P.depth t then some fs.size else none
  | _ => none

def strsOf : List D → Option (List ByteArray)
  | [] => some []
  | .sc (.string s) :: r => match strsOf r with | some ss => some (s :: ss) | none => none
  | _ => none

def eqStrs : List ByteArray → List ByteArray → Bool
  | [], [] => true
  | a :: x, b :: y => (a.toList == b.toList) && eqStrs x y
  | _, _ => false

theorem strsOf_rep {σ : Sig} : ∀ {ds : List D} {ss : List ByteArray} {vs : List Value}, strsOf ds = some ss → RepL σ vs ds → vs = ss.map Value.string
  | [], ss, vs, h, hr => by cases h; exact List.eq_nil_of_length_eq_zero hr.1
  | d :: ds, ss, vs, h, hr => by
    unfold strsOf at h
    split at h
    · rename_i heq; cases heq
    · rename_i s r heq
      cases heq
      split at h <;> try cases h
      rename_i ss' hss
      cases vs with
      | nil => have := hr.1; simp at this
      | cons v vs =>
        have h0 := hr.2 0 v _ rfl rfl
        cases h0
        rw [strsOf_rep (vs := vs) hss ⟨by have := hr.1; simpa using this, fun i v d hv hd => hr.2 (i + 1) v d (by simpa using hv) (by simpa using hd)⟩]
        rfl
    · cases h

theorem eqFields_run {w : World} (d : Nat) : ∀ (fs : List Field) (n : Nat) (pre1 pre2 a b : List ByteArray), strFields P n fs = true → pre1.length = n → pre2.length = n → a.length = fs.length → b.length = fs.length →
    (Op.eqFields (d + 1) ((pre1 ++ a).map Value.string).toArray ((pre2 ++ b).map Value.string).toArray fs).run P w = .ok (eqStrs a b) w
  | [], n, pre1, pre2, a, b, h, h1, h2, h3, h4 => by
    have : a = [] := List.eq_nil_of_length_eq_zero h3
    have : b = [] := List.eq_nil_of_length_eq_zero h4
    subst a b
    simp [Op.eqFields, eqStrs]
  | f :: fs, n, pre1, pre2, a, b, h, h1, h2, h3, h4 => by
    unfold strFields at h
    simp only [Bool.and_eq_true, bne_iff_ne, beq_iff_eq] at h
    obtain ⟨⟨⟨e1, e2⟩, e3⟩, e4⟩ := h
    cases a with
    | nil => simp at h3
    | cons x a =>
      cases b with
      | nil => simp at h4
      | cons y b =>
        have hu : P.underlying f.type = some .string := by
          split at e3
          · assumption
          · cases e3
        have hp : ∀ (pre : List ByteArray) (z : ByteArray) (c : List ByteArray), pre.length = n → (part f.type ((pre ++ z :: c).map Value.string).toArray f.offset).run P w = .ok (.string z) w := by
          intro pre z c hl
          have hg : (((pre ++ z :: c).map Value.string).toArray)[f.offset]? = some (.string z) := by
            rw [e2, ← hl]; simp
          simp only [part, isAgg, Sem.run_bind, run_underlying hu, Result.andThen_ok, Sem.run_pure, Bool.false_eq_true, if_false, hg]
        simp only [Op.eqFields, e1, ne_eq, not_false_eq_true, if_true, Sem.run_bind, hp pre1 x a h1, hp pre2 y b h2, Result.andThen_ok, run_equalIn_string w d f.type x y hu]
        by_cases hxy : x.toList == y.toList
        · have ih := eqFields_run (w := w) d fs (n + 1) (pre1 ++ [x]) (pre2 ++ [y]) a b e4 (by simp [h1]) (by simp [h2]) (by simpa using h3) (by simpa using h4)
          simp only [List.append_assoc, List.singleton_append] at ih
          simp only [hxy, Bool.not_true, Bool.false_eq_true, if_false, ih, eqStrs, Bool.true_and]
        · simp [hxy, eqStrs]

theorem op_aggeq (neg : Bool) (t ty : TypeId) (x y : Operand) (n : Nat) (cs ds : List D) (a b : List ByteArray) (ht : strStruct P t = some n) (hx : E x = .agg cs) (hy : E y = .agg ds) (ha : strsOf cs = some a) (hb : strsOf ds = some b)
    (hla : a.length = n) (hlb : b.length = n) : OpS P (.binOp (if neg then .neq else .eql) t x y ty) E st (.bool (if neg then !eqStrs a b else eqStrs a b)) st :=
  op_pure fun o ho w0 σ0 σ gh ρ w hbase hρ => by
    have h1 := hρ x (by simp [Op.operands])
    have h2 := hρ y (by simp [Op.operands])
    rw [hx] at h1
    rw [hy] at h2
    obtain ⟨us, e1, r1⟩ := h1
    obtain ⟨vs, e2, r2⟩ := h2
    have e3 := strsOf_rep ha r1
    have e4 := strsOf_rep hb r2
    subst e3 e4
    unfold strStruct at ht
    split at ht <;> try cases ht
    rename_i fs hu
    split at ht <;> try cases ht
    rename_i hc
    simp only [Bool.and_eq_true, Bool.not_eq_true'] at hc
    obtain ⟨⟨c1, c2⟩, c3⟩ := hc
    have hS : P.underlying t = some (.struct (P.fieldsOf t)) := by simp [Program.fieldsOf, hu]
    have hfs : P.fieldsOf t = fs := by simp [Program.fieldsOf, hu]
    have hr := eqFields_run (P := P) (w := w) 9998 fs.toList 0 [] [] a b c1 rfl rfl (by simpa using hla) (by simpa using hlb)
    simp only [List.nil_append] at hr
    have heq : (Op.equalIn 10000 t (.agg (a.map Value.string).toArray) (.agg (b.map Value.string).toArray)).run P w = .ok (eqStrs a b) w := by
      rw [show (10000 : Nat) = 9999 + 1 from rfl, run_equalIn_agg w 9999 t _ _ hS c2, hfs]; exact hr
    have hg : ∀ op, (eqGuard op t x y (.agg (a.map Value.string).toArray) (.agg (b.map Value.string).toArray)).run P w = .ok () w := fun op => run_eqGuard_agg w op t x y _ _ c3
    cases neg
    · refine ⟨.bool (eqStrs a b), ?_, RepA_of_sc rfl⟩
      simp only [execOp, ho, e1, e2, Bool.false_eq_true, if_false, Sem.run_bind, hg, Result.andThen_ok, run_eql_struct, heq, Sem.run_pure]
    · refine ⟨.bool (!eqStrs a b), ?_, RepA_of_sc rfl⟩
      simp only [execOp, ho, e1, e2, if_true, Sem.run_bind, hg, Result.andThen_ok, run_neq_struct, heq, Sem.run_pure]

end
end Go.Proofs.Nw.K
end
section
/- K20: strings appended to bytes; pointers checked, compared, seen as others. -/
open Go Go.RowKit
set_option linter.unusedVariables false
set_option linter.unusedSimpArgs false
namespace Go.Proofs.Nw.K

/-- a string's bytes, as rows -/
def strRows (s : ByteArray) : List (List D) := s.data.toList.map fun b => [.sc (.int .u8 b.toNat)]
theorem strRows_length (s : ByteArray) : (strRows s).length = s.size := by
  simp only [strRows, List.length_map, Array.length_toList]; rfl

theorem strCells_rows {σ : Sig} (s : ByteArray) : RepRows σ (Lib.strCells s) 1 (strRows s) := by
  refine ⟨fun i x hx => ?_, fun i j x d hx hd => ?_⟩
  · simp only [strRows, List.getElem?_map, Option.map_eq_some_iff] at hx
    obtain ⟨b, _, rfl⟩ := hx; rfl
  · simp only [strRows, List.getElem?_map, Option.map_eq_some_iff] at hx
    obtain ⟨b, hb, rfl⟩ := hx
    cases j with
    | zero =>
      simp at hd; subst hd
      exact ⟨.int .u8 b.toNat, by simp only [Lib.strCells, List.getElem?_map, Nat.mul_one, Nat.add_zero, hb, Option.map_some], .sc rfl⟩
    | succ j => simp at hd

/-- the type of bytes -/
def byteT (P : Program) (t : TypeId) : Option TypeId :=
  match P.underlying t with
  | some (.slice e) => match P.info? e with
    | some i => match i.zero with
      | some (.int .u8 0) => if i.size = 1 ∧ i.bytes = 1 then some e else none
      | _ => none
    | none => none
  | _ => none

theorem byteT_spec {P : Program} {t e : TypeId} (h : byteT P t = some e) : P.underlying t = some (.slice e) ∧ ∃ i, P.info? e = some i ∧ i.zero = some (.int .u8 0) ∧ i.size = 1 ∧ i.bytes = 1 := by
  unfold byteT at h
  split at h
  · rename_i e' hu
    split at h
    · rename_i i hi
      split at h
      · rename_i hz
        split at h
        · rename_i hc; cases h; exact ⟨hu, i, hi, hz, hc.1, hc.2⟩
        · cases h
      · cases h
    · cases h
  · cases h

theorem appendsAt_string {P : Program} {w : World} {σ : Sig} {t u ty e : TypeId} (ht : byteT P t = some e) (hu : P.underlying u = some .string) (s : ByteArray) (n : Nat)
    (hbytes : n + s.size ≤ 140737488351232) : AppendsAt P w t u ty e 1 σ (.string s) (strRows s) n := by
  intro base v vals hown hbase
  obtain ⟨hu', i, hi, hz, hsz, hby⟩ := byteT_spec ht
  have hm : n + s.size ≤ maxLen := by simp only [maxLen]; omega
  obtain ⟨v', w', hr, ho, hg, hnil⟩ := Lib.run_append_own_string (P := P) w base t u ty e i hu' hu hi hz hsz hby v n vals hown s hm (by omega) hbase
  refine ⟨v', w', Lib.strCells s, hr, by rw [strRows_length]; exact ho, hg, ?_, strCells_rows s, Lib.strCells_oneCell s⟩
  have det : ∀ {v'' w''}, (Builtin.append_ #[t, u] ty #[v, .string s]).run P w = .ok v'' w'' → v' = v'' := fun h => by rw [hr] at h; cases h; rfl
  rcases hown.2 with ⟨rfl, h0⟩ | ⟨g, cap, cur, rfl, hbg, hgw, hnc, hcm, hcs, htake⟩
  · by_cases hs : s.size = 0
    · left; rw [(hnil.2 ⟨rfl, hs⟩)]
    · right
      have := det (run_append_nil_string (P := P) w t u ty e i (.int .u8 0) hu' hu hi hz s (by omega) (by omega) (by rw [hby]; omega))
      rw [this]; rfl
  · by_cases hroom : n + s.size ≤ cap
    · left
      have := det (Lib.run_append_room_string (P := P) w t u ty e i hu' hu hi hsz g n cap cur hgw s hroom (by omega))
      rw [this]; rfl
    · right
      have hxl : vals.length = n := by simpa using hown.1
      have := det (Lib.run_append_grow_string (P := P) w t u ty e i (.int .u8 0) hu' hu hi hz ⟨g, 0, none⟩ n cap vals (by rw [hsz]; simpa using hxl) (hown.cells (g := g) rfl) s (by omega) (by omega) (by rw [hby]; exact growslice_fits (by omega) (by omega)))
      rw [this]; rfl

section
variable {P : Program} {E : Operand → AV} {st : List AO}

theorem op_appendS_nils (t u e : TypeId) (x y : Operand) (s : ByteArray) (ht : byteT P t = some e) (hu : P.underlying u = some .string) (hx : E x = .nils) (hy : E y = .str s) (hbytes : s.size ≤ 140737488351232) :
    OpS P (.call { callee := .builtin .append, args := #[x, y], argTypes := #[t, u] }) E st (.h st.length 0 0 (strRows s).length) (st ++ [.row 0 e 1 (strRows s)]) :=
  op_append_nils_ t u e 1 x y (strRows s) hx fun w0 σ0 σ gh w val ty hb h2 => by
    rw [hy] at h2
    have := RepA_sc h2
    subst this
    exact appendsAt_string ht hu s 0 (by omega)

theorem op_appendS_h (t u e : TypeId) (x y : Operand) (s : ByteArray) (r k n : Nat) (xs : List (List D)) (ht : byteT P t = some e) (hu : P.underlying u = some .string) (hx : E x = .h r k 0 n) (hst : st[r]? = some (.row k e 1 xs)) (hy : E y = .str s)
    (hbytes : n + s.size ≤ 140737488351232) :
    OpS P (.call { callee := .builtin .append, args := #[x, y], argTypes := #[t, u] }) E st (.h r (k + 1) 0 (n + (strRows s).length)) (st.set r (.row (k + 1) e 1 (xs.take n ++ strRows s))) :=
  op_append_h_ t u e 1 x y r k n xs (strRows s) hx hst fun w0 σ0 σ gh w val ty hb h2 => by
    rw [hy] at h2
    have := RepA_sc h2
    subst this
    exact appendsAt_string ht hu s n (by omega)

theorem op_nilCheck_ptr (x : Operand) (s off : Nat) (hx : E x = .ptr s off) : OpS P (.nilCheck x) E st (.ptr s off) st :=
  op_pure fun o ho w0 σ0 σ gh ρ w hb hρ => by
    have h1 := hρ x (by simp [Op.operands])
    rw [hx] at h1
    obtain ⟨b, h2, h3⟩ := h1
    exact ⟨ρ x, by simp [execOp, ho, h3], b, h2, h3⟩

theorem op_nilCheck_ref (x : Operand) (cells : List D) (hx : E x = .d (.ref cells)) : OpS P (.nilCheck x) E st (.d (.ref cells)) st :=
  op_pure fun o ho w0 σ0 σ gh ρ w hb hρ => by
    have h1 := hρ x (by simp [Op.operands])
    rw [hx] at h1
    refine ⟨ρ x, ?_, h1⟩
    have h1' : Rep σ (ρ x) (.ref cells) := h1
    simp only [execOp, ho]
    generalize ρ x = v at h1' ⊢
    cases h1' with
    | ref val hcell hval => rfl

/-- onto a list that has no room: a row of one's own begins -/
theorem op_append_full (t e : TypeId) (sz by_ : Nat) (x y : Operand) (xs ys : List (List D)) (ht : appT P t = some (e, sz, by_)) (hx : E x = .d (.full sz xs)) (hy : Src st (E y) sz ys) (hne : ys ≠ []) (hxe : xs ≠ [])
    (hbound : (xs.length + ys.length) * by_ ≤ 140737488355328) (hmax : xs.length + ys.length ≤ maxLen) :
    OpS P (.call { callee := .builtin .append, args := #[x, y], argTypes := #[t, t] }) E st (.h st.length 0 0 (xs.length + ys.length)) (st ++ [.row 0 e sz (xs ++ ys)]) := by
  intro o ho w0 σ0 σ gh ρ w hb hρ
  have h1 := hρ x (by simp [Op.operands, Call.operands])
  have h2 := hρ y (by simp [Op.operands, Call.operands])
  rw [hx] at h1
  obtain ⟨hu, i, z, hi, hz, hsz, hby, hzs, hpos⟩ := appT_spec ht
  have h1f : Rep σ (ρ x) (.full sz xs) := h1
  have h1l : RepA σ gh st (ρ x) (.list sz xs) := full_list h1f
  obtain ⟨A, c, hv, hc⟩ := src_cells hb h1l .list
  have hcap : c = xs.length := by
    generalize ρ x = u at h1f hv
    cases h1f with
    | full _ hc' => exact hc' _ _ _ hv
  obtain ⟨A2, c2, hv2, hc2⟩ := src_cells hb h2 hy
  rcases hc with hc | ⟨ad, olds, hA, hl, holds, hone, hrows⟩
  · exact absurd hc hxe
  rcases hc2 with hc2 | ⟨ad2, news, hA2, hl2, hnews, hone2, hrows2⟩
  · exact absurd hc2 hne
  subst hA hA2 hcap
  have hy0 : 0 < ys.length := by cases ys with | nil => exact absurd rfl hne | cons _ _ => simp
  have h63 : xs.length + ys.length ≤ 9223372036854775807 := by simp only [maxLen] at hmax; omega
  have hr := run_append_grow (P := P) w t o.type e i z hu hi hz ad xs.length xs.length olds (by rw [hsz]; exact hl) holds ad2 ys.length c2 news (by rw [hsz]; exact hl2) hnews (by omega) (by omega)
    (by rw [hby]; exact growslice_fits (by omega) hbound)
  have hrun : (execOp ρ o).run P w = .ok (.value (.slice (some ⟨w.heap.size, 0, none⟩) (xs.length + ys.length) (grownCap w (xs.length + ys.length) xs.length e)))
        (w.drew.alloc (.cells (olds.toArray ++ news.toArray ++ Builtin.zeroCells z.cells (grownCap w (xs.length + ys.length) xs.length e - (xs.length + ys.length))) e)) := by
    simp [execOp, ho, resolve, invoke, builtin, hv, hv2, hr]
  rw [hrun]
  have hge := grownCap_ge w (xs.length + ys.length) xs.length e
  have hcm := grownCap_le_maxLen w (xs.length + ys.length) xs.length e hmax
  generalize hG : grownCap w (xs.length + ys.length) xs.length e = G at hge hcm ⊢
  have hlen : (olds ++ news).length = (xs.length + ys.length) * sz := by rw [List.length_append, hl, hl2, Nat.add_mul]
  have hown : (w.drew.alloc (.cells (olds.toArray ++ news.toArray ++ Builtin.zeroCells z.cells (G - (xs.length + ys.length))) e)).ownsRow w0.heap.size e sz (.slice (some ⟨w.heap.size, 0, none⟩) (xs.length + ys.length) G) (xs.length + ys.length) (olds ++ news) := by
    refine ⟨hlen, .inr ⟨w.heap.size, G, _, rfl, hb.below.size, Go.heap_alloc_new w.drew _, hge, hcm, ?_, ?_⟩⟩
    · simp only [Array.size_append, List.size_toArray, size_zeroCells, hzs, hl, hl2]
      rw [← Nat.add_mul, ← Nat.add_mul]
      congr 1; omega
    · simp only [Array.toList_append, List.append_assoc]
      rw [← List.append_assoc, ← hlen]
      exact List.take_left
  have hg : w.grownBy (w.drew.alloc (.cells (olds.toArray ++ news.toArray ++ Builtin.zeroCells z.cells (G - (xs.length + ys.length))) e)) none :=
    ⟨rfl, rfl, rfl, by simp, fun k hk _ => Below.heap_alloc w.drew _ k hk⟩
  have hf := hb.push hg (.slice (some ⟨w.heap.size, 0, none⟩) (xs.length + ys.length) G) (.row 0 e sz (xs ++ ys)) (fun b hb' => by simp [blkOf] at hb'; subst hb'; exact ⟨Nat.le_refl _, by simp⟩)
    ⟨olds ++ news, by rw [List.length_append]; exact hown, (hrows.append hl hrows2).1, (hrows.append hl hrows2).2, fun b hb' => by simp [blkOf] at hb'; subst hb'; exact hb.sl.fresh (Nat.le_refl _), fun v hv => by
      rcases List.mem_append.1 hv with h | h
      · exact hone v h
      · exact hone2 v h⟩
  refine ⟨σ, _, hf, _, _, by rw [← hb.len]; simp; rfl, by simp; rfl, fun k' e' sz' xs' heq => ?_⟩
  cases heq
  exact ⟨Nat.le_refl _, fun _ => ⟨by simp, .inl ⟨rfl, by simp, rfl⟩⟩⟩

/-- a pointer type, of which two can be held against each other -/
def ptrT (P : Program) (t : TypeId) : Bool :=
  match P.underlying t with
  | some (.pointer e) => (P.info? e).isSome
  | _ => false

theorem ptrT_spec {t : TypeId} (h : ptrT P t = true) : ∃ e j, P.underlying t = some (.pointer e) ∧ P.info? e = some j := by
  unfold ptrT at h
  split at h
  · rename_i e he
    obtain ⟨j, hj⟩ := Option.isSome_iff_exists.1 h
    exact ⟨e, j, he, hj⟩
  · cases h

theorem eqGuard_ptr (op : BinOp) (t : TypeId) (x y : Operand) (a b : Option Addr) : eqGuard op t x y (.pointer a) (.pointer b) = pure () := by
  cases op <;> rfl

theorem op_peql_nil (t ty : TypeId) (x y : Operand) (s off : Nat) (ht : ptrT P t = true) (hx : E x = .ptr s off) (hy : E y = .sc (.pointer none)) : OpS P (.binOp .eql t x y ty) E st (.bool false) st :=
  op_pure fun o ho w0 σ0 σ gh ρ w hb hρ => by
    have h1 := hρ x (by simp [Op.operands])
    have h2 := hρ y (by simp [Op.operands])
    rw [hx] at h1
    rw [hy] at h2
    obtain ⟨b, _, h3⟩ := h1
    obtain ⟨e, j, h4, h5⟩ := ptrT_spec ht
    have hpt : P.pointee t = e := by simp [Program.pointee, h4]
    have := run_eql_pointer_nil (P := P) w t (some ⟨b, off, none⟩) (by rw [hpt]; exact h4)
    exact ⟨.bool false, by simp [execOp, ho, h3, RepA_sc h2, eqGuard_ptr, this], RepA_of_sc rfl⟩

theorem op_peql_nils (t ty : TypeId) (x y : Operand) (ht : ptrT P t = true) (hx : E x = .sc (.pointer none)) (hy : E y = .sc (.pointer none)) : OpS P (.binOp .eql t x y ty) E st (.bool true) st :=
  op_pure fun o ho w0 σ0 σ gh ρ w hb hρ => by
    have h1 := hρ x (by simp [Op.operands])
    have h2 := hρ y (by simp [Op.operands])
    rw [hx] at h1
    rw [hy] at h2
    obtain ⟨e, j, h4, h5⟩ := ptrT_spec ht
    have hpt : P.pointee t = e := by simp [Program.pointee, h4]
    have := run_eql_pointer_nil (P := P) w t none (by rw [hpt]; exact h4)
    exact ⟨.bool true, by simp [execOp, ho, RepA_sc h1, RepA_sc h2, eqGuard_ptr, this], RepA_of_sc rfl⟩

theorem op_pneq_same (t ty : TypeId) (x y : Operand) (s off : Nat) (ht : ptrT P t = true) (hx : E x = .ptr s off) (hy : E y = .ptr s off) : OpS P (.binOp .neq t x y ty) E st (.bool false) st :=
  op_pure fun o ho w0 σ0 σ gh ρ w hb hρ => by
    have h1 := hρ x (by simp [Op.operands])
    have h2 := hρ y (by simp [Op.operands])
    rw [hx] at h1
    rw [hy] at h2
    obtain ⟨b, h3, h4⟩ := h1
    obtain ⟨b', h3', h4'⟩ := h2
    rw [h3] at h3'
    cases h3'
    obtain ⟨e, j, h5, h6⟩ := ptrT_spec ht
    have := Lib.run_neq_ptr_same (P := P) w ⟨b, off, none⟩ h5 h6
    exact ⟨.bool false, by simp [execOp, ho, h4, h4', eqGuard_ptr, this], RepA_of_sc rfl⟩

/-- a pointer to the begin of a variable of type bT (n cells), seen as another type's: the same -/
def CvOk (P : Program) (s d bT n : Nat) : Prop := ∀ (w : World) b, w.shape? b = some (bT, n) → (convert s d (.pointer (some ⟨b, 0, none⟩))).run P w = .ok (.pointer (some ⟨b, 0, none⟩)) w

theorem op_convert_ptr (s d : TypeId) (x : Operand) (i bT : Nat) (cells : List AV) (hx : E x = .ptr i 0) (hst : st[i]? = some (.box bT cells)) (hc : CvOk P s d bT cells.length) : OpS P (.convert s d x) E st (.ptr i 0) st :=
  op_pure fun o ho w0 σ0 σ gh ρ w hb hρ => by
    have h1 := hρ x (by simp [Op.operands])
    rw [hx] at h1
    obtain ⟨b, vals, h2, h3, h4, h5, h6, _⟩ := ptr_cells hb h1 hst
    have := hc w b (by simp [World.shape?, h5, h6])
    exact ⟨.pointer (some ⟨b, 0, none⟩), by simp [execOp, ho, h3, this], b, h2, rfl⟩

/-- a function without a body that hands back what it is handed -/
def IdFn (P : Program) (f : FuncId) : Prop := ∀ (v : Value) (w : World), (callFunc f #[v]).run P w = .ok (.value v) w

theorem op_call_id (x y : Operand) (f : FuncId) (ts : Array TypeId) (hx : E x = .sc (.func (.func f) #[] #[])) (hi : IdFn P f) :
    OpS P (.call { callee := .value x, args := #[y], argTypes := ts }) E st (E y) st :=
  op_pure fun o ho w0 σ0 σ gh ρ w hb hρ => by
    have hf := hρ x (by simp [Op.operands, Call.operands])
    rw [hx] at hf
    have hf := RepA_sc hf
    have := hi (ρ y) w
    refine ⟨ρ y, ?_, hρ y (by simp [Op.operands, Call.operands])⟩
    simp only [execOp, ho, resolve, hf, Deferred.ofValue, Sem.run_bind, Sem.run_pure, Result.andThen_ok, invoke]
    simpa using this

/-- a list without an element -/
theorem op_buildSlice0 (t e : TypeId) (sz : Nat) (ht : elT P t = some (e, sz)) : OpS P (.buildSlice t 0 #[]) E st (.h st.length 0 0 0) (st ++ [.row 0 e sz []]) := by
  intro o ho w0 σ0 σ gh ρ w hb hρ
  obtain ⟨hu, i, hi, hsz⟩ := elT_spec ht
  have hrun : (execOp ρ o).run P w = .ok (.value (.slice (some ⟨w.heap.size, 0, none⟩) 0 0)) (w.alloc (.cells #[] e)) := by
    simp [execOp, ho, Instr.buildSlice, run_underlying hu, sizeOf, typeInfo, hi, newRow, Instr.fill]
    congr 2
    exact Array.eq_empty_of_size_eq_zero (by simp)
  rw [hrun]
  have hf := hb.push (World.grownBy_alloc w _ none) (.slice (some ⟨w.heap.size, 0, none⟩) 0 0) (.row 0 e sz []) (fun b hb' => by simp [blkOf] at hb'; subst hb'; exact ⟨Nat.le_refl _, by simp⟩)
    ⟨[], World.ownsRow_made w #[] 0 hb.below.size (Nat.zero_le _) (by simp), fun i x h => by simp at h, fun i j x d h => by simp at h, fun b hb' => by simp [blkOf] at hb'; subst hb'; exact hb.sl.fresh (Nat.le_refl _), by simp⟩
  refine ⟨σ, _, hf, _, _, by rw [← hb.len]; simp; rfl, by simp; rfl, fun k' e' sz' xs' heq => ?_⟩
  cases heq
  exact ⟨Nat.le_refl _, fun _ => ⟨by simp, .inl ⟨rfl, rfl, rfl⟩⟩⟩

end
end Go.Proofs.Nw.K
end
section
/- K23: a map of one's own, keyed by strings. -/
open Go Go.RowKit Go.MapKept
set_option linter.unusedVariables false
set_option linter.unusedSimpArgs false
namespace Go.Proofs.Nw.K

def strE (p : ByteArray × D) : Value × AV := (.string p.1, .d p.2)
def lookD (z : D) (k : ByteArray) : List (ByteArray × D) → D
  | [] => z
  | (a, d) :: r => if k = a then d else lookD z k r
def fndD (k : ByteArray) : List (ByteArray × D) → Option Nat
  | [] => none
  | (a, _) :: r => if k = a then some 0 else (fndD k r).map (· + 1)
def updD (k : ByteArray) (d : D) : List (ByteArray × D) → List (ByteArray × D)
  | [] => [(k, d)]
  | (a, x) :: r => if k = a then (a, d) :: r else (a, x) :: updD k d r

theorem fndD_none {k : ByteArray} {z d : D} : ∀ {l : List (ByteArray × D)}, fndD k l = none → lookD z k l = z ∧ updD k d l = l ++ [(k, d)]
  | [], _ => ⟨rfl, rfl⟩
  | (a, x) :: r, h => by
    unfold fndD at h
    split at h
    · cases h
    · rename_i hne
      have := fndD_none (z := z) (d := d) (l := r) (by simpa using h)
      exact ⟨by simp only [lookD, if_neg hne]; exact this.1, by simp only [updD, if_neg hne, this.2]; rfl⟩
theorem fndD_some {k : ByteArray} {z d : D} : ∀ {l : List (ByteArray × D)} {i : Nat}, fndD k l = some i → ∃ x, l[i]? = some (k, x) ∧ lookD z k l = x ∧ updD k d l = l.set i (k, d)
  | [], i, h => by cases h
  | (a, x) :: r, i, h => by
    unfold fndD at h
    split at h
    · rename_i he
      cases h
      subst he
      exact ⟨x, rfl, by simp [lookD], by simp [updD]⟩
    · rename_i hne
      obtain ⟨j, hj, rfl⟩ := Option.map_eq_some_iff.1 h
      obtain ⟨y, h1, h2, h3⟩ := fndD_some (z := z) (d := d) hj
      exact ⟨y, by simpa using h1, by simp only [lookD, if_neg hne]; exact h2, by simp only [updD, if_neg hne, h3]; rfl⟩

theorem findNow_str (k : ByteArray) : ∀ (l : List (ByteArray × D)) (es : List MapEntry) (n : Nat), es.length = l.length → (∀ (i : Nat) (me : MapEntry) p, es[i]? = some me → l[i]? = some p → me.key = .string p.1) →
    (fndD k l = none ∧ Instr.findNow .string (.string k) es n = some none) ∨ ∃ i me, fndD k l = some i ∧ es[i]? = some me ∧ Instr.findNow .string (.string k) es n = some (some (n + i, me.val))
  | [], [], n, _, _ => .inl ⟨rfl, rfl⟩
  | (a, d) :: r, e :: es, n, hl, hk => by
    have h0 : e.key = .string a := hk 0 e (a, d) rfl rfl
    by_cases he : k = a
    · refine .inr ⟨0, e, by simp [fndD, he], rfl, ?_⟩
      have : (k == a) = true := (bytes_beq k a).2 he
      simp [Instr.findNow, Instr.sameNow, h0, this]
    · have : (k == a) = false := by
        cases hc : (k == a) with
        | false => rfl
        | true => exact absurd ((bytes_beq k a).1 hc) he
      rcases findNow_str k r es (n + 1) (by simpa using hl) (fun i me p h1 h2 => hk (i + 1) me p (by simpa using h1) (by simpa using h2)) with ⟨h1, h2⟩ | ⟨i, me, h1, h2, h3⟩
      · exact .inl ⟨by simp [fndD, he, h1], by simp [Instr.findNow, Instr.sameNow, h0, this, h2]⟩
      · exact .inr ⟨i + 1, me, by simp [fndD, he, h1], by simpa using h2, by simp [Instr.findNow, Instr.sameNow, h0, this, h3]; omega⟩
  | [], _ :: _, _, hl, _ => by simp at hl
  | _ :: _, [], _, hl, _ => by simp at hl

/-- a map's type, keyed by strings: what its elements are at first -/
def mapT (P : Program) (t : TypeId) : Option D :=
  match P.underlying t with
  | some (.map k e) => match P.underlying k, P.info? e with
    | some .string, some i => match i.zero with
      | some (.bool b) => some (.sc (.bool b))
      | some (.string s) => some (.sc (.string s))
      | some (.int k n) => some (.sc (.int k n))
      | _ => none
    | _, _ => none
  | _ => none

theorem mapT_spec {P : Program} {t : TypeId} {zd : D} (h : mapT P t = some zd) : ∃ k e i z, P.underlying t = some (.map k e) ∧ P.underlying k = some .string ∧ P.info? e = some i ∧ i.zero = some z ∧ ∀ σ, Rep σ z zd := by
  unfold mapT at h
  split at h <;> try cases h
  rename_i k e ht
  split at h <;> try cases h
  rename_i i hk hi
  split at h <;> try cases h
  all_goals (rename_i hz; exact ⟨k, e, i, _, ht, hk, hi, hz, fun σ => Rep.sc rfl⟩)

section
variable {P : Program} {E : Operand → AV} {st : List AO}

theorem op_makeMap (t : TypeId) : OpS P (.makeMap t none) E st (.omap st.length) (st ++ [.mp []]) := by
  intro o ho w0 σ0 σ gh ρ w hb hρ
  have : (execOp ρ o).run P w = .ok (.value (.map (some w.heap.size))) (w.alloc (.map #[] 0)) := by
    simp [execOp, ho, run_makeMap, Result.andThen]
  rw [this]
  have hf := hb.push (w' := w.alloc (.map #[] 0)) (World.grownBy_alloc w _ none) (.map (some w.heap.size)) (.mp []) (fun b h => by
      simp only [blkOf, Option.some.injEq] at h; subst h; simp)
    ⟨w.heap.size, #[], 0, rfl, hb.below.size, (MapKept.heap_alloc w _).1, rfl, fun i k d h => by simp at h, hb.sl.fresh (Nat.le_refl _), rfl, fun i me h => by simp at h⟩
  exact ⟨σ, _, hf, by rw [← hb.len]; simp, _, rfl⟩

theorem op_lookup (t : TypeId) (x i : Operand) (s : Nat) (zd : D) (l : List (ByteArray × D)) (k : ByteArray) (ht : mapT P t = some zd) (hx : E x = .omap s) (hst : st[s]? = some (.mp (l.map strE))) (hi : E i = .str k) :
    OpS P (.lookup t x i false) E st (.d (lookD zd k l)) st := by
  obtain ⟨kt, e, inf, z, h1, h2, h3, h4, h5⟩ := mapT_spec ht
  refine op_pure fun o ho w0 σ0 σ gh ρ w hb hρ => ?_
  have hx' := hρ x (by simp [Op.operands])
  have hi' := hρ i (by simp [Op.operands])
  rw [hx] at hx'
  rw [hi] at hi'
  have hi' := RepA_sc hi'
  obtain ⟨hg, r, hr⟩ := hx'
  obtain ⟨r', entries, clock, e1, e2, e3, e4, e5, e6⟩ := hb.obj s _ _ hst hg
  have hrr : r' = r := by rw [hr] at e1; simpa using e1.symm
  subst hrr
  have hl : entries.toList.length = l.length := by simpa using e4
  have hkeys : ∀ (i : Nat) (me : MapEntry) p, entries.toList[i]? = some me → l[i]? = some p → me.key = .string p.1 := fun i me p hm hp => by
    obtain ⟨me', h6, h7, _⟩ := e5 i (.string p.1) (.d p.2) (by simp [hp, strE])
    rw [show entries.toList[i]? = entries[i]? by simp] at hm
    rw [hm] at h6
    cases h6
    exact h7
  have hzero : (zeroValue e).run P w = .ok z w := by simp [zeroValue, typeInfo, h3, h4]
  rcases findNow_str k l entries.toList 0 hl hkeys with ⟨f1, f2⟩ | ⟨j, me, f1, f2, f3⟩
  · refine ⟨z, ?_, ?_⟩
    · simp [execOp, ho, hr, hi', Instr.lookup, run_underlying h1, Go.MapKept.run_getObj_map e3, Go.MapKept.run_checkKey (d := .string) (k := .string k) h2 trivial, Go.MapKept.run_findKey h2 f2, Result.andThen, hzero]
    · rw [(fndD_none (z := zd) (d := zd) f1).1]; exact h5 σ
  · obtain ⟨y, g1, g2, _⟩ := fndD_some (z := zd) (d := zd) f1
    obtain ⟨me', g3, _, g4⟩ := e5 j (.string k) (.d y) (by simp [g1, strE])
    have : me' = me := by
      rw [show entries.toList[j]? = entries[j]? by simp] at f2
      rw [f2] at g3; cases g3; rfl
    subst this
    refine ⟨me'.val, ?_, ?_⟩
    · simp [execOp, ho, hr, hi', Instr.lookup, run_underlying h1, Go.MapKept.run_getObj_map e3, Go.MapKept.run_checkKey (d := .string) (k := .string k) h2 trivial, Go.MapKept.run_findKey h2 f3, Result.andThen]
    · rw [g2]; exact g4

theorem op_mapUpdate (t : TypeId) (x i y : Operand) (s : Nat) (zd d : D) (l : List (ByteArray × D)) (k : ByteArray) (ht : mapT P t = some zd) (hx : E x = .omap s) (hst : st[s]? = some (.mp (l.map strE))) (hi : E i = .str k) (hy : E y = .d d) :
    OpS P (.mapUpdate t x i y) E st .junk (st.set s (.mp ((updD k d l).map strE))) := by
  obtain ⟨kt, e, inf, z, h1, h2, h3, h4, h5⟩ := mapT_spec ht
  intro o ho w0 σ0 σ gh ρ w hb hρ
  have hx' := hρ x (by simp [Op.operands])
  have hi' := hρ i (by simp [Op.operands])
  have hy' := hρ y (by simp [Op.operands])
  rw [hx] at hx'
  rw [hi] at hi'
  rw [hy] at hy'
  have hi' := RepA_sc hi'
  have hy' : Rep σ (ρ y) d := hy'
  obtain ⟨hg, r, hr⟩ := hx'
  obtain ⟨r', entries, clock, e1, e2, e3, e4, e5, e6⟩ := hb.obj s _ _ hst hg
  have hrr : r' = r := by rw [hr] at e1; simpa using e1.symm
  subst hrr
  have hl : entries.toList.length = l.length := by simpa using e4
  have hkeys : ∀ (i : Nat) (me : MapEntry) p, entries.toList[i]? = some me → l[i]? = some p → me.key = .string p.1 := fun i me p hm hp => by
    obtain ⟨me', h6, h7, _⟩ := e5 i (.string p.1) (.d p.2) (by simp [hp, strE])
    rw [show entries.toList[i]? = entries[i]? by simp] at hm
    rw [hm] at h6
    cases h6
    exact h7
  have hrlt : r' < w.heap.size := (Array.getElem?_eq_some_iff.1 e3).1
  have keep : ∀ (o' : AO), (∀ k' e' sz' xs', o' ≠ .row k' e' sz' xs') → ∀ v a, RepA σ gh st v a → RepA σ gh (st.set s o') v a := fun o' hne v a h' => h'.set hst o' (fun k' e' sz' xs' heq => absurd heq (hne _ _ _ _))
  have fin : ∀ (entries' : Array MapEntry) (clock' : Nat) (l' : List (ByteArray × D)), entries'.size = l'.length → (clock' = entries'.size ∧ ∀ (i : Nat) (me : MapEntry), entries'[i]? = some me → me.born = i ∧ me.val.oneCell' = true) →
      (∀ (i : Nat) p, l'[i]? = some p → ∃ me : MapEntry, entries'[i]? = some me ∧ me.key = .string p.1 ∧ Rep σ me.val p.2) →
      Fut w0 σ0 σ gh st σ gh (st.set s (.mp (l'.map strE))) { w with heap := w.heap.setIfInBounds r' (.map entries' clock') } := fun entries' clock' l' hs hbo he => by
    have := hb.turn (w' := { w with heap := w.heap.setIfInBounds r' (.map entries' clock') }) hst hg (by simp) ⟨rfl, rfl, rfl, by simp, fun j _ hj => by
        have hne : r' ≠ j := fun hh => hj (by rw [hr]; simp [blkOf, hh])
        simp [hne]⟩ (ρ x) (.mp (l'.map strE)) (fun b hb' => .inl hb')
      ⟨r', entries', clock', hr, e2, by simp [hrlt], by simpa using hs, fun i k d hk => by
        simp only [List.getElem?_map, Option.map_eq_some_iff] at hk
        obtain ⟨p, hp, hpe⟩ := hk
        obtain ⟨me, m1, m2, m3⟩ := he i p hp
        simp only [strE, Prod.mk.injEq] at hpe
        obtain ⟨rfl, rfl⟩ := hpe
        exact ⟨me, m1, m2, m3⟩, e6.1, hbo⟩ (by rw [set_self hg]; exact keep _ (by simp))
    rwa [set_self hg] at this
  have old : ∀ (i : Nat) p, l[i]? = some p → ∃ me : MapEntry, entries[i]? = some me ∧ me.key = .string p.1 ∧ Rep σ me.val p.2 := fun i p hp => e5 i (.string p.1) (.d p.2) (by simp [hp, strE])
  rcases findNow_str k l entries.toList 0 hl hkeys with ⟨f1, f2⟩ | ⟨j, me, f1, f2, f3⟩
  · have hrun : (execOp ρ o).run P w = .ok .skip { w with heap := w.heap.setIfInBounds r' (.map (entries.push { key := .string k, val := ρ y, born := clock }) (clock + 1)) } := by
      simp [execOp, ho, hr, hi', Instr.mapUpdate, run_underlying h1, Go.MapKept.run_getObj_map e3, Go.MapKept.run_checkKey (d := .string) (k := .string k) h2 trivial, Go.MapKept.run_findKey h2 f2, Go.MapKept.run_setObj_map _ e3, Result.andThen]
    rw [hrun]
    refine ⟨rfl, σ, gh, ?_⟩
    rw [(fndD_none (z := zd) (d := d) f1).2]
    refine fin _ _ _ (by simp; simpa using hl) ⟨by simp [e6.2.1], fun i me hm => by
      rw [Array.getElem?_push] at hm
      split at hm
      · rename_i hi; cases hm; exact ⟨e6.2.1.trans hi.symm, hy'.one⟩
      · exact e6.2.2 i me hm⟩ fun i p hp => ?_
    by_cases hlt : i < l.length
    · rw [List.getElem?_append_left hlt] at hp
      obtain ⟨me, m1, m2, m3⟩ := old i p hp
      have : i < entries.size := (Array.getElem?_eq_some_iff.1 m1).1
      exact ⟨me, by rw [Array.getElem?_push, if_neg (by omega)]; exact m1, m2, m3⟩
    · have hi0 : i = l.length := by
        have := (List.getElem?_eq_some_iff.1 hp).1
        simp at this; omega
      subst hi0
      simp at hp
      subst hp
      exact ⟨_, by rw [Array.getElem?_push, if_pos (by simpa using hl.symm)], rfl, hy'⟩
  · obtain ⟨y0, g1, _, g2⟩ := fndD_some (z := zd) (d := d) f1
    have f2' : entries[j]? = some me := by simpa using f2
    have hkey : me.key = .string k := hkeys j me _ f2 g1
    have hsame : Instr.sameBits 10000 (Value.string k) (Value.string k) = true := by
      show (k == k) = true
      exact (bytes_beq k k).2 rfl
    have hrun : (execOp ρ o).run P w = .ok .skip { w with heap := w.heap.setIfInBounds r' (.map (entries.modify j fun e => { e with key := .string k, val := ρ y }) clock) } := by
      simp [execOp, ho, hr, hi', Instr.mapUpdate, run_underlying h1, Go.MapKept.run_getObj_map e3, Go.MapKept.run_checkKey (d := .string) (k := .string k) h2 trivial, Go.MapKept.run_findKey h2 f3, f2', hkey, Instr.keyThatStays, hsame, Go.MapKept.run_setObj_map _ e3, Result.andThen]
    rw [hrun]
    refine ⟨rfl, σ, gh, ?_⟩
    rw [g2]
    refine fin _ _ _ (by simp; simpa using hl) ⟨by simp [e6.2.1], fun i me hm => by
      rw [Array.getElem?_modify] at hm
      split at hm
      · rename_i hi
        obtain ⟨me0, h0, rfl⟩ := Option.map_eq_some_iff.1 hm
        exact ⟨(e6.2.2 i me0 h0).1, hy'.one⟩
      · exact e6.2.2 i me hm⟩ fun i p hp => ?_
    by_cases hij : j = i
    · subst hij
      have hjl : j < l.length := (List.getElem?_eq_some_iff.1 g1).1
      have : p = (k, d) := by simpa [hjl] using hp.symm
      subst this
      exact ⟨_, by rw [Array.getElem?_modify, if_pos rfl, f2']; rfl, rfl, hy'⟩
    · rw [List.getElem?_set, if_neg hij] at hp
      obtain ⟨me', m1, m2, m3⟩ := old i p hp
      exact ⟨me', by rw [Array.getElem?_modify, if_neg hij]; exact m1, m2, m3⟩
end
end Go.Proofs.Nw.K
end
section
/- K26: stores into elements of one's own rows; the greater of two ints; a list with nothing behind it. -/
open Go Go.RowKit
set_option linter.unusedVariables false
set_option linter.unusedSimpArgs false
namespace Go.Proofs.Nw.K

section
variable {P : Program} {E : Operand → AV} {st : List AO}

theorem idx_split {sz i j i' j' : Nat} (hj : j < sz) (hj' : j' < sz) (h : i * sz + j = i' * sz + j') : i = i' ∧ j = j' := by
  have e1 : (i * sz + j) / sz = i := by rw [Nat.mul_comm, Nat.mul_add_div (by omega), Nat.div_eq_of_lt hj]; rfl
  have e2 : (i' * sz + j') / sz = i' := by rw [Nat.mul_comm, Nat.mul_add_div (by omega), Nat.div_eq_of_lt hj']; rfl
  have : i = i' := by rw [← e1, ← e2, h]
  subst this
  exact ⟨rfl, by omega⟩

/-- a piece of an element is written -/
theorem row_store {w0 : World} {σ0 σ gh w} (hb : Base w0 σ0 σ gh st w) {u : Value} {s v i off e sz : Nat} {xs : List (List D)} {cells : List D} (h : RepA σ gh st u (.ep s v i off)) (hst : st[s]? = some (.row v e sz xs))
    (hc : xs[i]? = some cells) (vs : List Value) (ds : List D) (hr : RepL σ vs ds) (hle : off + ds.length ≤ cells.length) :
    ∃ A w', u = .pointer (some A) ∧ (storeCells A vs).run P w = .ok () w' ∧
      Fut w0 σ0 σ gh st σ gh (st.set s (.row v e sz (xs.set i (cells.take off ++ ds ++ cells.drop (off + ds.length))))) w' := by
  obtain ⟨g, b, m, c, cap, cur, vals, a1, a2, a3, a4, a5, a6, a7, a8, a9, a10, a11, a12, a13, a14, a15, a16⟩ := ep_val hb hst h
  have hcs := a14.1 _ _ hc
  have hl := hr.1
  have h1 : ∀ v ∈ vs, v.oneCell' = true := fun v hv => by
    obtain ⟨j, hj, rfl⟩ := List.getElem_of_mem hv
    exact (hr.2 j _ (ds[j]'(by omega)) (by simp [hj]) (by simp)).one
  have hlei : i * sz + sz ≤ xs.length * sz := by
    calc i * sz + sz = (i + 1) * sz := by rw [Nat.add_mul]; omega
      _ ≤ xs.length * sz := Nat.mul_le_mul_right _ (by omega)
  have hcap : xs.length * sz ≤ cap * sz := Nat.mul_le_mul_right _ a9
  have hin : i * sz + off + vs.length ≤ cur.size := by omega
  have hrun := run_storeCells_at P b (i * sz + off) e vs 0 cur w a6 (by omega) h1
  simp only [Nat.add_zero] at hrun
  refine ⟨_, _, a3, hrun, ?_⟩
  generalize hcur' : (cur.toList.take (i * sz + off) ++ vs ++ cur.toList.drop (i * sz + off + vs.length)).toArray = cur' at *
  have hcs' : cur'.size = cur.size := by rw [← hcur']; simp; omega
  generalize hxs' : xs.set i (cells.take off ++ ds ++ cells.drop (off + ds.length)) = xs'
  have hxl : xs'.length = xs.length := by rw [← hxs']; simp
  have keep : ∀ v' a, RepA σ gh st v' a → RepA σ gh (st.set s (.row v e sz xs')) v' a := fun v' a h' => h'.set hst _ (fun k' e' sz' xs'' heq => by cases heq; exact ⟨e, xs, rfl, hxl.symm⟩)
  have hget : ∀ t, cur'[t]? = if i * sz + off ≤ t ∧ t < i * sz + off + vs.length then vs[t - (i * sz + off)]? else cur[t]? := fun t => by
    rw [← hcur', List.getElem?_toArray, List.append_assoc, List.getElem?_append]
    have l1 : (List.take (i * sz + off) cur.toList).length = i * sz + off := by simp; omega
    rw [l1]
    by_cases c1 : t < i * sz + off
    · rw [if_pos c1, if_neg (by omega), List.getElem?_take_of_lt c1]; simp
    · rw [if_neg c1, List.getElem?_append]
      by_cases c2 : t - (i * sz + off) < vs.length
      · rw [if_pos c2, if_pos (by omega)]
      · rw [if_neg c2, if_neg (by omega), List.getElem?_drop]
        have : i * sz + off + vs.length + (t - (i * sz + off) - vs.length) = t := by omega
        rw [this]; simp
  have hv' : ∀ t, t < xs.length * sz → (cur'.toList.take (xs.length * sz))[t]? = if i * sz + off ≤ t ∧ t < i * sz + off + vs.length then vs[t - (i * sz + off)]? else vals[t]? := fun t ht => by
    rw [List.getElem?_take_of_lt ht, Array.getElem?_toList, hget]
    split
    · rfl
    · rw [← a12, List.getElem?_take_of_lt ht]; simp
  have hlenx : ∀ (j : Nat) x, xs'[j]? = some x → x.length = sz := fun j x hx => by
    rw [← hxs'] at hx
    rcases List.mem_or_eq_of_mem_set (List.mem_of_getElem? hx) with h | h
    · obtain ⟨j', hj'⟩ := List.mem_iff_getElem?.1 h
      exact a14.1 j' x hj'
    · rw [h]; simp; omega
  have hset := set_self a1
  have := hb.turn (w' := w.setRow b cur') hst a1 (by simp) (by rw [a2]; simpa [blkOf] using grown_setRow w b _) g (.row v e sz xs') (fun b' hb' => .inl hb') ?_ (by rw [hset]; exact keep)
  · rwa [hset] at this
  · rw [hset]
    refine ⟨cur'.toList.take (xs.length * sz), ⟨?_, .inr ⟨b, cap, cur', by rw [a2, a7, hxl, a8], a5, setRow_heap w b cur _ e _ a6, by rw [hxl]; exact a9, a10, by rw [hcs']; exact a11, by rw [hxl]⟩⟩, ?_, ?_, ?_, ?_⟩
    · rw [hxl]; simp; omega
    · intro j x hx
      exact hlenx j x hx
    · intro i' j x d hx hd
      have hx0 : i' < xs.length := by rw [← hxl]; exact (List.getElem?_eq_some_iff.1 hx).1
      have hjs : j < sz := by
        rw [← hlenx i' x hx]; exact (List.getElem?_eq_some_iff.1 hd).1
      have hlt : i' * sz + j < xs.length * sz := by
        calc i' * sz + j < i' * sz + sz := by omega
          _ = (i' + 1) * sz := by rw [Nat.add_mul]; omega
          _ ≤ xs.length * sz := Nat.mul_le_mul_right _ (by omega)
      rw [hv' _ hlt]
      rw [← hxs', List.getElem?_set] at hx
      by_cases ei : i = i'
      · subst ei
        have hx : cells.take off ++ ds ++ cells.drop (off + ds.length) = x := by
          rw [if_pos rfl] at hx
          simpa [hx0] using hx
        subst hx
        rw [List.append_assoc, List.getElem?_append] at hd
        have l1 : (List.take off cells).length = off := by simp; omega
        rw [l1] at hd
        by_cases c1 : j < off
        · rw [if_pos c1, List.getElem?_take_of_lt c1] at hd
          rw [if_neg (by omega)]
          exact a14.2 i j cells d hc hd
        · rw [if_neg c1, List.getElem?_append] at hd
          by_cases c2 : j - off < ds.length
          · rw [if_pos c2] at hd
            rw [if_pos (by omega)]
            have e1 : i * sz + j - (i * sz + off) = j - off := by omega
            rw [e1]
            have hj2 : j - off < vs.length := by omega
            exact ⟨vs[j - off], by simp [hj2], hr.2 _ _ d (by simp [hj2]) hd⟩
          · rw [if_neg c2, List.getElem?_drop] at hd
            rw [if_neg (by omega)]
            have e1 : off + ds.length + (j - off - ds.length) = j := by omega
            rw [e1] at hd
            exact a14.2 i j cells d hc hd
      · rw [if_neg ei] at hx
        rw [if_neg]
        · exact a14.2 i' j x d hx hd
        · rintro ⟨c1, c2⟩
          have hj' : i' * sz + j - i * sz < sz := by omega
          have := idx_split (sz := sz) (i := i') (j := j) (i' := i) (j' := i' * sz + j - i * sz) hjs hj' (by omega)
          exact ei this.1.symm
    · intro b' hb'
      rw [a2] at hb'; simp [blkOf] at hb'; subst hb'; exact a15
    · intro v' hv2
      obtain ⟨t, ht⟩ := List.mem_iff_getElem?.1 hv2
      have hlt : t < xs.length * sz := by
        have := (List.getElem?_eq_some_iff.1 ht).1
        simp at this; omega
      rw [hv' t hlt] at ht
      split at ht
      · exact h1 v' (List.mem_of_getElem? ht)
      · exact a16 v' (List.mem_of_getElem? ht)

theorem op_store_ep1 (t : TypeId) (x y : Operand) (s v i off e sz : Nat) (d : D) (xs : List (List D)) (cells : List D) (ht : ldT P t = some (1, false)) (hx : E x = .ep s v i off) (hy : E y = .d d) (hst : st[s]? = some (.row v e sz xs))
    (hc : xs[i]? = some cells) (hoff : off < cells.length) : OpS P (.store t x y) E st .junk (st.set s (.row v e sz (xs.set i (cells.set off d)))) := by
  intro o ho w0 σ0 σ gh ρ w hb hρ
  have h1 := hρ x (by simp [Op.operands])
  have h2 := hρ y (by simp [Op.operands])
  rw [hx] at h1
  rw [hy] at h2
  have h2 : Rep σ (ρ y) d := h2
  obtain ⟨A, w', e1, e2, hf⟩ := row_store (P := P) hb h1 hst hc [ρ y] [d] ⟨rfl, fun i v d' hv hd' => by
    cases i with
    | zero => simp at hv hd'; subst hv hd'; exact h2
    | succ i => simp at hv⟩ (by simp; omega)
  have hsz := (ldT_one ht w).2
  have : (execOp ρ o).run P w = .ok .skip w' := by
    simp [execOp, ho, e1, Instr.storeAt, Instr.sureAddr, storeVar, one_cells h2.one, hsz, e2]
  rw [this]
  have hcs : cells.take off ++ [d] ++ cells.drop (off + [d].length) = cells.set off d := by
    rw [List.set_eq_take_append_cons_drop, if_pos hoff]; simp
  rw [hcs] at hf
  exact ⟨rfl, σ, gh, hf⟩

theorem op_store_ep (t : TypeId) (x y : Operand) (n s v i off e sz : Nat) (ds : List D) (xs : List (List D)) (cells : List D) (ht : ldT P t = some (n, true)) (hx : E x = .ep s v i off) (hy : E y = .agg ds) (hst : st[s]? = some (.row v e sz xs))
    (hc : xs[i]? = some cells) (hn : ds.length = n) (hoff : off + n ≤ cells.length) : OpS P (.store t x y) E st .junk (st.set s (.row v e sz (xs.set i (cells.take off ++ ds ++ cells.drop (off + n))))) := by
  intro o ho w0 σ0 σ gh ρ w hb hρ
  have h1 := hρ x (by simp [Op.operands])
  have h2 := hρ y (by simp [Op.operands])
  rw [hx] at h1
  rw [hy] at h2
  obtain ⟨vs, e0, hr⟩ := h2
  obtain ⟨A, w', e1, e2, hf⟩ := row_store (P := P) hb h1 hst hc vs ds hr (by omega)
  have hl := hr.1
  have hsz := (ldT_agg ht w).2
  have : (execOp ρ o).run P w = .ok .skip w' := by
    have hl' : vs.length = n := by omega
    simp [execOp, ho, e1, e0, Instr.storeAt, Instr.sureAddr, storeVar, Value.cells, hsz, e2, hl']
  rw [this]
  rw [hn] at hf
  exact ⟨rfl, σ, gh, hf⟩

/-- nothing appended to a list that has no room: the list itself -/
theorem op_append_full0 (t e : TypeId) (sz by_ : Nat) (x y : Operand) (xs : List (List D)) (ht : appT P t = some (e, sz, by_)) (hx : E x = .d (.full sz xs)) (hy : Src st (E y) sz []) :
    OpS P (.call { callee := .builtin .append, args := #[x, y], argTypes := #[t, t] }) E st (.d (.full sz xs)) st :=
  op_pure fun o ho w0 σ0 σ gh ρ w hb hρ => by
    have h1 := hρ x (by simp [Op.operands, Call.operands])
    have h2 := hρ y (by simp [Op.operands, Call.operands])
    rw [hx] at h1
    obtain ⟨hu, i, z, hi, hz, hsz, hby, hzs, hpos⟩ := appT_spec ht
    have h1f : Rep σ (ρ x) (.full sz xs) := h1
    have h1l : RepA σ gh st (ρ x) (.list sz xs) := full_list h1f
    obtain ⟨A, c, hv, _⟩ := src_cells hb h1l .list
    have hcap : c = xs.length := by
      generalize ρ x = u at h1f hv
      cases h1f with
      | full _ hc' => exact hc' _ _ _ hv
    obtain ⟨A2, c2, hv2, _⟩ := src_cells hb h2 hy
    refine ⟨ρ x, ?_, h1⟩
    have hfc : (Builtin.firstCells sz 0 (.slice A2 0 c2)).run P w = .ok #[] w := by
      cases A2 <;> simp [Builtin.firstCells, loadCells, loadCellsFrom]
    have hmc : xs.length ≤ c := by omega
    have hr : (Builtin.append_ #[t, t] o.type #[ρ x, ρ y]).run P w = .ok (ρ x) w := by
      rw [hv, hv2]
      cases A <;> simp [Builtin.append_, run_underlying hu, sizeOf, typeInfo, hi, hsz, Builtin.lenOf, hmc, hfc, storeCells]
    simp [execOp, ho, resolve, invoke, builtin, hr]

/-- the greater of two ints -/
theorem op_max (ts : Array TypeId) (x y : Operand) (k : IntKind) (a b : Int) (hx : E x = .sc (.int k a)) (hy : E y = .sc (.int k b)) :
    OpS P (.call { callee := .builtin .max, args := #[x, y], argTypes := ts }) E st (.sc (.int k (if b > a then b else a))) st :=
  op_pure fun o ho w0 σ0 σ gh ρ w hb hρ => by
    have h1 := hρ x (by simp [Op.operands, Call.operands])
    have h2 := hρ y (by simp [Op.operands, Call.operands])
    rw [hx] at h1
    rw [hy] at h2
    exact ⟨_, by simp [execOp, ho, resolve, invoke, builtin, RepA_sc h1, RepA_sc h2, Builtin.max_, Builtin.max2], RepA_of_sc rfl⟩

theorem op_bneq (t ty : TypeId) (x y : Operand) (a b : Bool) (ht : P.underlying t = some .bool) (hx : E x = .bool a) (hy : E y = .bool b) : OpS P (.binOp .neq t x y ty) E st (.bool (!(a == b))) st :=
  op_bin _ _ _ _ _ _ _ _ hx hy (fun w => run_neq_bool w t a b ht) (by simp [eqGuard_at_bool]) rfl

end
end Go.Proofs.Nw.K
end
section
/- K27: a string's bytes as a row of one's own: '[]byte(s)'. -/
open Go Go.RowKit
set_option linter.unusedVariables false
set_option linter.unusedSimpArgs false
namespace Go.Proofs.Nw.K

def bytesI (s : ByteArray) : List Int := s.data.toList.map fun b => (b.toNat : Int)
theorem bytesI_length (s : ByteArray) : (bytesI s).length = s.size := by
  simp only [bytesI, List.length_map, Array.length_toList]; rfl

section
variable {P : Program} {E : Operand → AV} {st : List AO}

theorem op_str2bytes (s d e : TypeId) (x : Operand) (str : ByteArray) (hs : P.underlying s = some .string) (hd : P.underlying d = some (.slice e)) (he : P.underlying e = some (.int .u8)) (hx : E x = .str str) :
    OpS P (.convert s d x) E st (.bs st.length str.size) (st ++ [.brow e (bytesI str)]) := by
  intro o ho w0 σ0 σ gh ρ w hb hρ
  have h1 := hρ x (by simp [Op.operands])
  rw [hx] at h1
  have h1 := RepA_sc h1
  have hrun : (execOp ρ o).run P w = .ok (.value (.slice (some ⟨w.heap.size, 0, none⟩) str.size (grownCap w str.size 0 e))) (Lib.bytesWorld w e str) := by
    simp [execOp, ho, h1, Lib.run_convert_string_bytes w s d e str hs hd he]
  rw [hrun]
  have hg : w.grownBy (Lib.bytesWorld w e str) none := ⟨rfl, rfl, rfl, by rw [Lib.bytesWorld_size]; omega, fun k hk _ => Lib.bytesWorld_at_old w e str k hk⟩
  have hf := hb.push hg (.pointer (some ⟨w.heap.size, 0, none⟩)) (.brow e (bytesI str)) (fun b hb' => by simp [blkOf] at hb'; subst hb'; rw [Lib.bytesWorld_size]; omega)
    ⟨w.heap.size, Lib.bytesCells w e str, _, rfl, hb.below.size, Lib.bytesWorld_at_new w e str, Nat.le_refl _, by rw [bytesI_length]; simp [Lib.bytesCells], fun i n hn => by
      simp only [bytesI, List.getElem?_map, Option.map_eq_some_iff] at hn
      obtain ⟨c, hc, rfl⟩ := hn
      have hi : i < str.data.size := by simpa using (List.getElem?_eq_some_iff.1 hc).1
      simp only [Lib.bytesCells, Array.getElem?_append, Array.size_map, hi, if_true, Array.getElem?_map]
      simp only [Array.getElem?_toList] at hc
      simp [hc], hb.sl.fresh (Nat.le_refl _)⟩
  exact ⟨σ, _, hf, w.heap.size, _, by rw [← hb.len]; simp, rfl⟩

theorem bs_val {w0 : World} {σ0 σ gh w} (hb : Base w0 σ0 σ gh st w) {u : Value} {s n : Nat} (h : RepA σ gh st u (.bs s n)) : ∃ b c, gh[s]? = some (.pointer (some ⟨b, 0, none⟩)) ∧ u = .slice (some ⟨b, 0, none⟩) n c := h

theorem brow_cells {w0 : World} {σ0 σ gh w} (hb : Base w0 σ0 σ gh st w) {s e : Nat} {ns : List Int} {b : Nat} (hst : st[s]? = some (.brow e ns)) (hg : gh[s]? = some (.pointer (some ⟨b, 0, none⟩))) :
    ∃ vals fz, w0.heap.size ≤ b ∧ w.heap[b]? = some (.cells vals e fz) ∧ vals.size ≤ fz.1 ∧ ns.length ≤ vals.size ∧ (∀ (i : Nat) n, ns[i]? = some n → vals[i]? = some (.int .u8 n)) ∧ Uns σ b := by
  obtain ⟨b', vals, fz, e1, h2, h3, h4, h5, h6, h7⟩ := hb.obj s _ _ hst hg
  cases e1
  exact ⟨vals, fz, h2, h3, h4, h5, h6, h7⟩

theorem op_len_bs (t e : TypeId) (x : Operand) (s n : Nat) (hu : P.underlying t = some (.slice e)) (hx : E x = .bs s n) : OpS P (.call { callee := .builtin .len, args := #[x], argTypes := #[t] }) E st (.int n) st :=
  op_pure fun o ho w0 σ0 σ gh ρ w hb hρ => by
    have h1 := hρ x (by simp [Op.operands, Call.operands])
    rw [hx] at h1
    obtain ⟨b, c, _, hv⟩ := h1
    exact ⟨.int .i64 n, by simp [execOp, ho, resolve, invoke, builtin, Builtin.len_, run_underlying hu, hv, goInt], RepA_of_sc rfl⟩

theorem op_indexAddr_bs (t e : TypeId) (x i : Operand) (k : IntKind) (m : Int) (s n : Nat) (ht : elT P t = some (e, 1)) (hx : E x = .bs s n) (hi : E i = .sc (.int k m)) (h0 : 0 ≤ m) (h1 : m < n) :
    OpS P (.indexAddr t x i) E st (.ptr s m.toNat) st :=
  op_pure fun o ho w0 σ0 σ gh ρ w hb hρ => by
    have h2 := hρ x (by simp [Op.operands])
    have h3 := hρ i (by simp [Op.operands])
    rw [hx] at h2
    rw [hi] at h3
    have h3 := RepA_sc h3
    obtain ⟨b, c, hg, hv⟩ := h2
    obtain ⟨hu, ti, hinfo, hti⟩ := elT_spec ht
    refine ⟨.pointer (some ⟨b, m.toNat, none⟩), ?_, b, hg, rfl⟩
    simp [execOp, ho, hv, h3, Instr.indexAt, asIntOf, run_underlying hu, sizeOf, typeInfo, hinfo, hti, h0, h1, add_lit]

theorem op_load_brow (t : TypeId) (x : Operand) (n s off e : Nat) (m : Int) (ns : List Int) (ht : ldT P t = some (n, false)) (hx : E x = .ptr s off) (hst : st[s]? = some (.brow e ns)) (hm : ns[off]? = some m) :
    OpS P (.load t x) E st (.byte m) st :=
  op_pure fun o ho w0 σ0 σ gh ρ w hb hρ => by
    have h1 := hρ x (by simp [Op.operands])
    rw [hx] at h1
    obtain ⟨b, h2, h3⟩ := h1
    obtain ⟨vals, fz, a1, a2, a3, a4, a5, a6⟩ := brow_cells hb hst h2
    have hc : w.cell? ⟨b, off, none⟩ = some (.int .u8 m) := by rw [cell_of_row w b off vals e fz a2]; exact a5 _ _ hm
    exact ⟨.int .u8 m, by simp [execOp, ho, h3, Instr.loadAt, Instr.sureAddr, run_loadVar_one ht hc], RepA_of_sc rfl⟩

theorem op_store_brow (t : TypeId) (x y : Operand) (s off e : Nat) (m : Int) (ns : List Int) (ht : ldT P t = some (1, false)) (hx : E x = .ptr s off) (hy : E y = .byte m) (hst : st[s]? = some (.brow e ns)) (hoff : off < ns.length) :
    OpS P (.store t x y) E st .junk (st.set s (.brow e (ns.set off m))) := by
  intro o ho w0 σ0 σ gh ρ w hb hρ
  have h1 := hρ x (by simp [Op.operands])
  have h2 := hρ y (by simp [Op.operands])
  rw [hx] at h1
  rw [hy] at h2
  have h2 := RepA_sc h2
  obtain ⟨b, hg, h3⟩ := h1
  obtain ⟨vals, fz, a1, a2, a3, a4, a5, a6⟩ := brow_cells hb hst hg
  have hlt : off < vals.size := by omega
  have hcell : w.cell? ⟨b, off, none⟩ = some vals[off] := by rw [cell_of_row w b off vals e fz a2]; simp [hlt]
  have hfro : w.frozen? ⟨b, off, none⟩ = false := by
    have : ¬ fz.1 ≤ off := by omega
    simp [World.frozen?, a2, this]
  have hrun : (store ⟨b, off, none⟩ (.int .u8 m)).run P w = .ok () (w.setRow b (vals.setIfInBounds off (.int .u8 m))) := by
    rw [run_store P w _ _ _ (by rfl), hcell]
    simp [hfro, setCell_eq_setRow w b off vals e fz _ a2]
  have hsz := (ldT_one ht w).2
  have hr : (execOp ρ o).run P w = .ok .skip (w.setRow b (vals.setIfInBounds off (.int .u8 m))) := by
    have hadd : (⟨b, off, none⟩ : Addr).add 0 = ⟨b, off, none⟩ := by rw [add_lit]; rfl
    simp [execOp, ho, h3, h2, Instr.storeAt, Instr.sureAddr, storeVar, one_cells (v := .int .u8 m) rfl, hsz, storeCells, hadd, hrun]
  rw [hr]
  have hset := set_self hg
  have keep : ∀ v a, RepA σ gh st v a → RepA σ gh (st.set s (.brow e (ns.set off m))) v a := fun v a hv => hv.set hst _ (fun k e sz xs heq => by cases heq)
  have hf := hb.turn (w' := w.setRow b (vals.setIfInBounds off (.int .u8 m))) hst hg (by simp) (by simpa [blkOf] using grown_setRow w b _) (.pointer (some ⟨b, 0, none⟩)) (.brow e (ns.set off m)) (fun b' hb' => .inl hb') ?_ (by rw [hset]; exact keep)
  · rw [hset] at hf
    exact ⟨rfl, σ, gh, hf⟩
  · refine ⟨b, _, fz, rfl, a1, setRow_heap w b vals _ e fz a2, by simpa using a3, by simpa using a4, fun i n hn => ?_, a6⟩
    rw [List.getElem?_set] at hn
    rw [Array.getElem?_setIfInBounds]
    by_cases hi : off = i
    · subst hi
      rw [if_pos rfl] at hn
      rw [if_pos rfl]
      simp only [hoff, if_true] at hn
      cases hn
      simp [hlt]
    · rw [if_neg hi] at hn
      rw [if_neg hi]
      exact a5 i n hn

theorem op_bytes2str_bs (s d e : TypeId) (x : Operand) (r n e' : Nat) (ns : List Int) (hs : P.underlying s = some (.slice e)) (he : P.underlying e = some (.int .u8)) (hd : P.underlying d = some .string) (hx : E x = .bs r n) (hst : st[r]? = some (.brow e' ns)) (hn : n = ns.length) :
    OpS P (.convert s d x) E st (.str ⟨(ns.map fun n => UInt8.ofNat n.toNat).toArray⟩) st :=
  op_pure fun o ho w0 σ0 σ gh ρ w hb hρ => by
    have h1 := hρ x (by simp [Op.operands])
    rw [hx] at h1
    obtain ⟨b, c, hg, hv⟩ := h1
    subst hn
    obtain ⟨vals, fz, a1, a2, a3, a4, a5, a6⟩ := brow_cells hb hst hg
    have hrun := run_bytesToString (P := P) w (some ⟨b, 0, none⟩) c ns (.inr ⟨_, rfl, fun j v hj => by
      simp only [List.getElem?_map, Option.map_eq_some_iff] at hj
      obtain ⟨n, hn, rfl⟩ := hj
      rw [add_lit, Nat.zero_add, cell_of_row w b j vals e' fz a2]
      exact a5 j n hn⟩)
    exact ⟨_, by simp [execOp, ho, convert, run_underlying hs, run_underlying hd, run_underlying he, hv, hrun], RepA_of_sc rfl⟩

theorem op_nilCheck_ep (x : Operand) (s v i off e sz : Nat) (xs : List (List D)) (hx : E x = .ep s v i off) (hst : st[s]? = some (.row v e sz xs)) : OpS P (.nilCheck x) E st (.ep s v i off) st :=
  op_pure fun o ho w0 σ0 σ gh ρ w hb hρ => by
    have h1 := hρ x (by simp [Op.operands])
    rw [hx] at h1
    obtain ⟨g, b, m, c, cap, cur, vals, a1, a2, a3, _⟩ := ep_val hb hst h1
    exact ⟨ρ x, by simp [execOp, ho, a3], h1⟩

/-- a literal of a slice as a row of one's own -/
theorem op_buildSliceH (t e : TypeId) (sz len : Nat) (parts : Array (Nat × Operand)) (zs ds : List D) (ht : elT P t = some (e, sz)) (hz : zeroD P e = some zs) (hzl : zs.length = sz) (hpos : 0 < len * sz) (hmax : len * sz ≤ 16777216)
    (hf : fillD (fun i => some (i * sz, sz)) ((List.range (len * sz)).map fun i => zs.getD (i % sz) .nils) (parts.toList.map fun p => (p.1, E p.2)) = some ds) (hdl : ds.length = len * sz) :
    OpS P (.buildSlice t len parts) E st (.h st.length 0 0 len) (st ++ [.row 0 e sz (chunk sz ds len)]) := by
  intro o ho w0 σ0 σ gh ρ w hb hρ
  obtain ⟨i, z, hi, hz', hrz⟩ := zeroD_spec hz
  obtain ⟨hu, i', hi', hsz⟩ := elT_spec ht
  rw [hi] at hi'
  cases hi'
  have hpr := parts_rep (E := E) (st := st) (σ := σ) (gh := gh) ρ parts.toList (fun x hx => hρ x (by simpa [Op.operands] using hx))
  have hzr := hrz σ
  have hzs : z.cells.size = sz := by have := hzr.1; simpa [hzl] using this
  have hsp : 0 < sz := Nat.pos_of_mul_pos_left hpos
  have hbase : RepL σ ((Array.range (len * sz)).map (fun x => z.cells[x % z.cells.size]!)).toList ((List.range (len * sz)).map fun i => zs.getD (i % sz) .nils) := by
    refine ⟨by simp, fun j v d hv hd => ?_⟩
    simp only [List.getElem?_map, Option.map_eq_some_iff, Array.toList_map, Array.toList_range] at hv hd
    obtain ⟨j1, hj1, rfl⟩ := hv
    obtain ⟨j2, hj2, rfl⟩ := hd
    rw [hj1] at hj2
    cases hj2
    have hlt : j1 % sz < z.cells.size := by rw [hzs]; exact Nat.mod_lt _ hsp
    have hlt2 : j1 % sz < zs.length := by rw [hzl]; exact Nat.mod_lt _ hsp
    have e1 : z.cells[j1 % z.cells.size]! = z.cells[j1 % sz] := by rw [hzs]; exact getElem!_pos z.cells _ hlt
    rw [e1]
    refine hzr.2 (j1 % sz) _ _ (by simp [hlt]) (by simp [List.getD, hlt2])
  obtain ⟨cs', h1, h2⟩ := fill_rep (σ := σ) (gh := gh) (st := st) (fun i => some (i * sz, sz)) _ _ _ _ ds (by simp) hpr hbase hf
  have hpp : (parts.map fun p => (p.1, ρ p.2)).toList = parts.toList.map fun p => (p.1, ρ p.2) := by simp
  have h1' : Instr.fill (fun i => some (i * sz, sz)) ((Array.range (len * sz)).map (fun x => z.cells[x % z.cells.size]!)) (parts.map fun p => (p.1, ρ p.2)).toList = some cs' := by rw [hpp]; exact h1
  have hrun : (execOp ρ o).run P w = .ok (.value (.slice (some ⟨w.heap.size, 0, none⟩) len len)) (w.alloc (.cells cs' e)) := by
    have hm : ¬ (len * sz > 2 ^ 24) := by omega
    have h0 : ¬ (len * sz = 0) := by omega
    simp only [execOp, ho, Instr.buildSlice, Sem.run_bind, run_underlying hu, Result.andThen_ok, sizeOf, typeInfo, run_program, hi, Sem.run_pure, hsz, hm, if_false, h0, zeroValue, hz']
    simp [newRow, h1]
  rw [hrun]
  have hone : ∀ v ∈ cs', v.oneCell' = true := fun v hv => by
    obtain ⟨j, hj, rfl⟩ := List.getElem_of_mem (by simpa using hv : v ∈ cs'.toList)
    have hj' : j < ds.length := by rw [← h2.1]; exact hj
    exact (h2.2 j _ ds[j] (by simp [hj]) (by simp [hj'])).one
  have hcl : cs'.size = len * sz := by have := h2.1; simp at this; omega
  have hlen : 0 < len := Nat.pos_of_mul_pos_right hpos
  have hbnd : ∀ i j, i < len → j < sz → i * sz + j < len * sz := fun i j hi' hj => by
    calc i * sz + j < i * sz + sz := by omega
      _ = (i + 1) * sz := by rw [Nat.add_mul]; omega
      _ ≤ len * sz := Nat.mul_le_mul_right _ (by omega)
  have hmx : len ≤ maxLen := by
    have : len ≤ len * sz := Nat.le_mul_of_pos_right _ hsp
    simp only [maxLen]; omega
  have hown := World.ownsRow_lit (base := w0.heap.size) (e := e) (size := sz) w cs' len hb.below.size hmx hcl
  have hcl2 := chunk_length sz len ds
  have hf' := hb.push (World.grownBy_alloc w (.cells cs' e) none) (.slice (some ⟨w.heap.size, 0, none⟩) len len) (.row 0 e sz (chunk sz ds len)) (fun b hb' => by simp [blkOf] at hb'; subst hb'; simp)
    ⟨cs'.toList, by rw [hcl2]; exact hown, fun i x hx => by
      obtain ⟨h3, rfl⟩ := chunk_get sz len ds i x hx
      have := Nat.mul_le_mul_right sz (show i + 1 ≤ len by omega)
      rw [Nat.add_mul] at this
      simp; omega, fun i j x d hx hd => by
      obtain ⟨h3, rfl⟩ := chunk_get sz len ds i x hx
      have hj : j < sz := by have := (List.getElem?_eq_some_iff.1 hd).1; simp at this; omega
      rw [List.getElem?_take_of_lt hj, List.getElem?_drop] at hd
      have hlt := hbnd i j h3 hj
      exact ⟨cs'[i * sz + j]'(by omega), by simp, h2.2 (i * sz + j) _ d (by simp) hd⟩, fun b hb' => by simp [blkOf] at hb'; subst hb'; exact hb.sl.fresh (Nat.le_refl _), fun v hv => hone v (by simpa using hv)⟩
  refine ⟨σ, _, hf', _, _, by rw [← hb.len]; simp; rfl, by simp; rfl, fun k' e' sz' xs' heq => ?_⟩
  cases heq
  exact ⟨Nat.le_refl _, fun _ => ⟨by rw [hcl2]; omega, .inl ⟨rfl, hcl2.symm, rfl⟩⟩⟩

end
end Go.Proofs.Nw.K
end
section
/- K15: what is to be shown of code, computed: 'vc'. -/
open Go Go.RowKit
set_option linter.unusedVariables false
set_option linter.unusedSimpArgs false
namespace Go.Proofs.Nw.K

/-- one datum may stand for another -/
def DLe (d d' : DV) : Prop := ∀ σ v, RepV σ v d → RepV σ v d'
theorem DLe.refl (d : DV) : DLe d d := fun _ _ h => h
theorem DLe.tl {α : Type} {sz : Nat} {enc : α → List D} (z : α) {xs : List α} {ys : List (List D)} (e : ys = xs.map enc) : DLe (.one (.list sz ys)) (.one (.tl α sz enc z xs)) :=
  fun σ v h => by subst e; exact Rep.tl h
theorem DLe.nils {α : Type} {sz : Nat} {enc : α → List D} (z : α) : DLe (.one .nils) (.one (.tl α sz enc z [])) :=
  fun σ v h => by
    have h : Rep σ v .nils := h
    cases h
    exact Rep.tl (Rep.nil (by simp [maxLen]))
theorem DLe.nilsl {sz : Nat} : DLe (.one .nils) (.one (.list sz [])) :=
  fun σ v h => by
    have h : Rep σ v .nils := h
    cases h
    exact Rep.nil (by simp [maxLen])
theorem DLe.of_eq {d d' : DV} (e : d = d') : DLe d d' := e ▸ DLe.refl d
/-- a struct, cell by cell -/
def CLe : List D → List D → Prop
  | [], [] => True
  | d :: r, d' :: r' => DLe (.one d) (.one d') ∧ CLe r r'
  | _, _ => False
theorem CLe.rep {σ : Sig} : ∀ {ds ds' : List D} {vs : List Value}, CLe ds ds' → RepL σ vs ds → RepL σ vs ds'
  | [], [], vs, _, h => h
  | d :: r, d' :: r', vs, hc, h => by
    cases vs with
    | nil => have := h.1; simp at this
    | cons v vs =>
      have ih := CLe.rep (vs := vs) hc.2 ⟨by have := h.1; simpa using this, fun i u e hu he => h.2 (i + 1) u e (by simpa using hu) (by simpa using he)⟩
      refine ⟨by have := ih.1; simp [this], fun i u e hu he => ?_⟩
      cases i with
      | zero => simp at hu he; subst hu he; exact hc.1 σ _ (h.2 0 _ d rfl rfl)
      | succ i => simp at hu he; exact ih.2 i u e hu he
  | [], _ :: _, _, hc, _ => hc.elim
  | _ :: _, [], _, hc, _ => hc.elim
theorem DLe.agg {ds ds' : List D} (h : CLe ds ds') : DLe (.agg ds) (.agg ds') := fun σ v hv => by
  obtain ⟨vs, e, hr⟩ := hv
  exact ⟨vs, e, h.rep hr⟩

/-- rows, one by one -/
def LsLe : List (List D) → List (List D) → Prop
  | [], [] => True
  | x :: r, y :: r' => CLe x y ∧ LsLe r r'
  | _, _ => False
theorem CLe.length : ∀ {ds ds' : List D}, CLe ds ds' → ds.length = ds'.length
  | [], [], _ => rfl
  | _ :: r, _ :: r', h => by simp [CLe.length h.2]
  | [], _ :: _, h => h.elim
  | _ :: _, [], h => h.elim
theorem CLe.get : ∀ {ds ds' : List D} {j : Nat} {d' : D}, CLe ds ds' → ds'[j]? = some d' → ∃ d, ds[j]? = some d ∧ DLe (.one d) (.one d')
  | d :: r, d' :: r', 0, e, h, hd => by simp at hd; subst hd; exact ⟨d, rfl, h.1⟩
  | d :: r, d' :: r', j + 1, e, h, hd => by
    obtain ⟨x, h1, h2⟩ := CLe.get (j := j) h.2 (by simpa using hd)
    exact ⟨x, by simpa using h1, h2⟩
  | [], [], _, _, _, hd => by simp at hd
  | [], _ :: _, _, _, h, _ => h.elim
  | _ :: _, [], _, _, h, _ => h.elim
theorem CLe.refl : ∀ ds : List D, CLe ds ds
  | [] => trivial
  | d :: r => ⟨DLe.refl _, CLe.refl r⟩
theorem LsLe.length : ∀ {a b : List (List D)}, LsLe a b → a.length = b.length
  | [], [], _ => rfl
  | _ :: r, _ :: r', h => by simp [LsLe.length h.2]
  | [], _ :: _, h => h.elim
  | _ :: _, [], h => h.elim
theorem LsLe.get : ∀ {a b : List (List D)} {i : Nat} {y : List D}, LsLe a b → b[i]? = some y → ∃ x, a[i]? = some x ∧ CLe x y
  | x :: r, y :: r', 0, e, h, hd => by simp at hd; subst hd; exact ⟨x, rfl, h.1⟩
  | x :: r, y :: r', j + 1, e, h, hd => by
    obtain ⟨z, h1, h2⟩ := LsLe.get (i := j) h.2 (by simpa using hd)
    exact ⟨z, by simpa using h1, h2⟩
  | [], [], _, _, _, hd => by simp at hd
  | [], _ :: _, _, _, h, _ => h.elim
  | _ :: _, [], _, _, h, _ => h.elim
theorem LsLe.refl : ∀ a : List (List D), LsLe a a
  | [] => trivial
  | x :: r => ⟨CLe.refl x, LsLe.refl r⟩
theorem LsLe.app : ∀ {a b c d : List (List D)}, LsLe a b → LsLe c d → LsLe (a ++ c) (b ++ d)
  | [], [], _, _, _, k => k
  | _ :: _, _ :: _, _, _, h, k => ⟨h.1, LsLe.app h.2 k⟩
  | [], _ :: _, _, _, h, _ => h.elim
  | _ :: _, [], _, _, h, _ => h.elim
theorem DLe.rows {sz : Nat} {a b : List (List D)} (h : LsLe a b) : DLe (.one (.list sz a)) (.one (.list sz b)) := fun σ v hv => by
  have hv : Rep σ v (.list sz a) := hv
  show Rep σ v (.list sz b)
  have hl := h.length
  cases hv with
  | nil hm =>
    cases b with
    | nil => exact .nil hm
    | cons _ _ => simp at hl
  | list val hn h0 hc hm hsz hcell hval =>
    refine .list val (by rw [hn, hl]) h0 hc hm (fun i y hy => ?_) hcell (fun i j y d hy hd => ?_)
    · obtain ⟨x, hx, hc⟩ := h.get hy
      rw [← hc.length]; exact hsz i x hx
    · obtain ⟨x, hx, hc⟩ := h.get hy
      obtain ⟨d0, hd0, hle⟩ := hc.get hd
      exact hle σ _ (hval i j x d0 hx hd0)
theorem DLe.trans {a b c : DV} (h : DLe a b) (k : DLe b c) : DLe a c := fun σ v hv => k σ v (h σ v hv)
theorem DLe.tlr {α : Type} {sz : Nat} {enc : α → List D} (z : α) {xs : List α} {ys : List (List D)} (h : LsLe ys (xs.map enc)) : DLe (.one (.list sz ys)) (.one (.tl α sz enc z xs)) :=
  (DLe.rows h).trans (DLe.tl z rfl)

def AsLe : List DV → List DV → Prop
  | [], [] => True
  | d :: r, d' :: r' => DLe d d' ∧ AsLe r r'
  | _, _ => False
theorem AsLe.rep {σ : Sig} : ∀ {ds ds' : List DV} {vs : List Value}, AsLe ds ds' → RepVs σ vs ds → RepVs σ vs ds'
  | [], [], vs, _, h => h
  | d :: r, d' :: r', vs, hc, h => by
    cases vs with
    | nil => have := h.1; simp at this
    | cons v vs =>
      have ih := AsLe.rep (vs := vs) hc.2 ⟨by have := h.1; simpa using this, fun i u e hu he => h.2 (i + 1) u e (by simpa using hu) (by simpa using he)⟩
      refine ⟨by have := ih.1; simp [this], fun i u e hu he => ?_⟩
      cases i with
      | zero => simp at hu he; subst hu he; exact hc.1 σ _ (h.2 0 _ d rfl rfl)
      | succ i => simp at hu he; exact ih.2 i u e hu he
  | [], _ :: _, _, hc, _ => hc.elim
  | _ :: _, [], _, hc, _ => hc.elim
theorem AsLe.refl : ∀ ds, AsLe ds ds
  | [] => trivial
  | d :: r => ⟨DLe.refl d, AsLe.refl r⟩

theorem AsLe.res {σ : Sig} {ds ds' : List DV} {u : Value} (h : AsLe ds ds') (hr : RepRes σ u ds) : RepRes σ u ds' := by
  match ds, ds', h with
  | [], [], _ => exact hr
  | [d], [d'], h => exact h.1 σ u hr
  | d :: e :: r, d' :: e' :: r', h =>
    obtain ⟨us, h1, h2⟩ := hr
    exact ⟨us, h1, h.rep h2⟩
  | [d], d' :: e' :: r', h => exact h.2.elim
  | d :: e :: r, [d'], h => exact h.2.elim

theorem Impl.le {P : Program} {f : FuncId} {ds ds' res : List DV} (h : Impl P f ds' res) (hl : AsLe ds ds') : Impl P f ds res :=
  fun w σ vs hs hv => h w σ vs hs (hl.rep hv)
theorem Impl.res {P : Program} {f : FuncId} {ds res res' : List DV} (h : Impl P f ds res) (hl : AsLe res res') : Impl P f ds res' :=
  fun w σ vs hs hv => (h w σ vs hs hv).mono fun e w' ⟨u, σ', h1, h2, h3, h4, h5⟩ => ⟨u, σ', h1, h2, h3, h4, hl.res h5⟩

/-! ### the tables, looked up -/
inductive TK where
  | int (k : IntKind) | str | bool | slice (e : Nat) | other

structure Tab where
  ld : Nat → Option (Nat × Bool)
  fo : Nat → Nat → Option Nat
  el : Nat → Option (Nat × Nat)
  ap : Nat → Option (Nat × Nat × Nat)
  kd : Nat → TK
  zb : Nat → Option (List AV)
  zd : Nat → Option (List D)
  bt : Nat → Option (List (Nat × Nat))
  ss : Nat → Option Nat
  cl : Nat → Bool
  bb : Nat → Option Nat
  cv : Nat → Nat → Option (Nat × Nat)
  ei : Nat → Bool
  pt : Nat → Bool

structure TabOk (P : Program) (T : Tab) : Prop where
  ld : ∀ t x, T.ld t = some x → ldT P t = some x
  fo : ∀ t f x, T.fo t f = some x → fieldOff P t f = some x
  el : ∀ t x, T.el t = some x → elT P t = some x
  ap : ∀ t x, T.ap t = some x → appT P t = some x
  kint : ∀ t k, T.kd t = .int k → P.underlying t = some (.int k)
  kstr : ∀ t, T.kd t = .str → P.underlying t = some .string
  kbool : ∀ t, T.kd t = .bool → P.underlying t = some .bool
  kslice : ∀ t e, T.kd t = .slice e → P.underlying t = some (.slice e)
  zb : ∀ t x, T.zb t = some x → zeroOf P t = some x
  zd : ∀ t x, T.zd t = some x → zeroD P t = some x
  bt : ∀ t x, T.bt t = some x → buildT P t = some x
  ss : ∀ t x, T.ss t = some x → strStruct P t = some x
  cl : ∀ f, T.cl f = true → callable P f = true
  bb : ∀ t e, T.bb t = some e → byteT P t = some e
  cv : ∀ s d b n, T.cv s d = some (b, n) → CvOk P s d b n
  ei : ∀ f, T.ei f = true → IdFn P f
  pt : ∀ t, T.pt t = true → ptrT P t = true
  mixed : P.follows .mixedOrders = true

def byteAt (s : ByteArray) (n : Nat) : Int := bt s n

abbrev KO := AV → List AO → Prop

/-- the value itself, not the way to it -/
def force (a : AV) (K : AV → Prop) : Prop :=
  match a with
  | .v (.one (.sc (.bool b))) => K (.v (.one (.sc (.bool b))))
  | .v (.one (.sc v)) => K (.v (.one (.sc v)))
  | .v (.one d) => K (.v (.one d))
  | .v (.agg cs) => K (.v (.agg cs))
  | .ptr s off => K (.ptr s off)
  | .h s k lo n => K (.h s k lo n)
  | .ep s k i off => K (.ep s k i off)
  | .omap s => K (.omap s)
  | .tup vs => K (.tup vs)
  | .clo f caps => K (.clo f caps)
  | .bs s n => K (.bs s n)
  | .pkg cs => K (.pkg cs)
  | .junk => K .junk
theorem force_out {a : AV} {K : AV → Prop} (h : force a K) : K a := by
  unfold force at h
  split at h <;> exact h

section
variable (P : Program) (T : Tab) (N : Fm)

/-- arithmetic on an int: within its range -/
def vcArith (k : IntKind) (r : Int) (st : List AO) (K : KO) : Prop :=
  match k with
  | .i64 => (-9223372036854775808 ≤ r ∧ r ≤ 9223372036854775807) ∧ K (.int r) st
  | k => K (.sc (.int k (k.wrap r))) st

def vcBin (op : BinOp) (t : Nat) (x y : AV) (st : List AO) (K : KO) : Prop :=
  match op, x, y with
  | .add, .v (.one (.sc (.int k a))), .v (.one (.sc (.int k' b))) => k' = k ∧ vcArith k (a + b) st K
  | .sub, .v (.one (.sc (.int k a))), .v (.one (.sc (.int k' b))) => k' = k ∧ vcArith k (a - b) st K
  | .mul, .v (.one (.sc (.int k a))), .v (.one (.sc (.int k' b))) => k' = k ∧ vcArith k (a * b) st K
  | .quo, .v (.one (.sc (.int k a))), .v (.one (.sc (.int k' b))) => k' = k ∧ b ≠ 0 ∧ vcArith k (a.tdiv b) st K
  | .rem, .v (.one (.sc (.int k a))), .v (.one (.sc (.int k' b))) => k' = k ∧ b ≠ 0 ∧ K (.sc (.int k (a.tmod b))) st
  | .eql, .v (.one (.sc (.int k a))), .v (.one (.sc (.int k' b))) => k' = k ∧ K (.bool (a == b)) st
  | .neq, .v (.one (.sc (.int k a))), .v (.one (.sc (.int k' b))) => k' = k ∧ K (.bool (a != b)) st
  | .lss, .v (.one (.sc (.int k a))), .v (.one (.sc (.int k' b))) => k' = k ∧ K (.bool (decide (a < b))) st
  | .leq, .v (.one (.sc (.int k a))), .v (.one (.sc (.int k' b))) => k' = k ∧ K (.bool (decide (a ≤ b))) st
  | .gtr, .v (.one (.sc (.int k a))), .v (.one (.sc (.int k' b))) => k' = k ∧ K (.bool (decide (a > b))) st
  | .geq, .v (.one (.sc (.int k a))), .v (.one (.sc (.int k' b))) => k' = k ∧ K (.bool (decide (a ≥ b))) st
  | .add, .v (.one (.sc (.string a))), .v (.one (.sc (.string b))) => a.size + b.size ≤ 9223372036854775807 ∧ K (.str (a ++ b)) st
  | .eql, .v (.one (.sc (.string a))), .v (.one (.sc (.string b))) => K (.bool (a.toList == b.toList)) st
  | .neq, .v (.one (.sc (.string a))), .v (.one (.sc (.string b))) => K (.bool (!(a.toList == b.toList))) st
  | .lss, .v (.one (.sc (.string a))), .v (.one (.sc (.string b))) => K (.bool (Op.bytesLess a.toList b.toList)) st
  | .leq, .v (.one (.sc (.string a))), .v (.one (.sc (.string b))) => K (.bool (Op.bytesLess a.toList b.toList || a.toList == b.toList)) st
  | .gtr, .v (.one (.sc (.string a))), .v (.one (.sc (.string b))) => K (.bool (!(Op.bytesLess a.toList b.toList || a.toList == b.toList))) st
  | .eql, .v (.one (.sc (.bool a))), .v (.one (.sc (.bool b))) => T.kd t = .bool ∧ K (.bool (a == b)) st
  | .neq, .v (.one (.sc (.bool a))), .v (.one (.sc (.bool b))) => T.kd t = .bool ∧ K (.bool (!(a == b))) st
  | .eql, .ptr _ _, .v (.one (.sc (.pointer none))) => T.pt t = true ∧ K (.bool false) st
  | .eql, .v (.one (.sc (.pointer none))), .v (.one (.sc (.pointer none))) => T.pt t = true ∧ K (.bool true) st
  | .neq, .ptr s off, .ptr s' off' => (s' = s ∧ off' = off) ∧ T.pt t = true ∧ K (.bool false) st
  | .eql, .v (.agg cs), .v (.agg ds) => match T.ss t, strsOf cs, strsOf ds with
    | some n, some a, some b => a.length = n ∧ b.length = n ∧ K (.bool (eqStrs a b)) st
    | _, _, _ => False
  | .neq, .v (.agg cs), .v (.agg ds) => match T.ss t, strsOf cs, strsOf ds with
    | some n, some a, some b => a.length = n ∧ b.length = n ∧ K (.bool (!eqStrs a b)) st
    | _, _, _ => False
  | _, _, _ => False

def vcLoad (t : Nat) (x : AV) (st : List AO) (K : KO) : Prop :=
  match T.ld t, x with
  | some (n, true), .v (.one (.ref cells)) => n ≤ cells.length ∧ K (.agg (cells.take n)) st
  | some (_, false), .v (.one (.ref cells)) => match cells[0]? with
    | some d => K (.d d) st
    | none => False
  | some (n, true), .ptr s off => match st[s]? with
    | some (.box bT cells) => match toDs ((cells.drop off).take n) with
      | some ds => ds.length = n ∧ K (.agg ds) st
      | none => False
    | _ => False
  | some (_, false), .ptr s off => match st[s]? with
    | some (.box bT cells) => match cells[off]? with
      | some a => K a st
      | none => False
    | some (.brow e ns) => ∃ m, ns[off]? = some m ∧ K (.byte m) st
    | _ => False
  | some (n, true), .ep s v i off => match st[s]? with
    | some (.row v' e sz xs) => v = v' ∧ ∃ cells, xs[i]? = some cells ∧ off + n ≤ cells.length ∧ K (.agg ((cells.drop off).take n)) st
    | _ => False
  | some (_, false), .ep s v i off => match st[s]? with
    | some (.row v' e sz xs) => v = v' ∧ ∃ cells d, xs[i]? = some cells ∧ cells[off]? = some d ∧ K (.d d) st
    | _ => False
  | _, _ => False

def vcStore (t : Nat) (x y : AV) (st : List AO) (K : KO) : Prop :=
  match T.ld t, x, y with
  | some (n, true), .ptr s off, .v (.agg ds) => match st[s]? with
    | some (.box bT cells) => ds.length = n ∧ off + n ≤ cells.length ∧ K .junk (st.set s (.box bT (cells.take off ++ ds.map AV.d ++ cells.drop (off + n))))
    | _ => False
  | some (1, false), .ptr s off, a => match st[s]? with
    | some (.box bT cells) => okSingle st a ∧ off < cells.length ∧ K .junk (st.set s (.box bT (cells.take off ++ [a] ++ cells.drop (off + 1))))
    | some (.brow e ns) => ∃ m, a = .byte m ∧ off < ns.length ∧ K .junk (st.set s (.brow e (ns.set off m)))
    | _ => False
  | some (n, true), .ep s v i off, .v (.agg ds) => match st[s]? with
    | some (.row v' e sz xs) => v = v' ∧ ∃ cells, xs[i]? = some cells ∧ ds.length = n ∧ off + n ≤ cells.length ∧ K .junk (st.set s (.row v e sz (xs.set i (cells.take off ++ ds ++ cells.drop (off + n)))))
    | _ => False
  | some (1, false), .ep s v i off, .v (.one d) => match st[s]? with
    | some (.row v' e sz xs) => v = v' ∧ ∃ cells, xs[i]? = some cells ∧ off < cells.length ∧ K .junk (st.set s (.row v e sz (xs.set i (cells.set off d))))
    | _ => False
  | _, _, _ => False

/-- a store; a row of one's own may be given out with it -/
def vcStoreG (t : Nat) (x y : AV) (st : List AO) (K : KO) : Prop :=
  match y with
  | .h s k lo n => vcStore T t x (.h s k lo n) st K ∨ (match st[s]? with
    | some (.row k' e sz xs) => (k = k' ∧ lo = 0 ∧ n = xs.length) ∧ vcStore T t x (.list sz xs) (st.set s .gone) K
    | _ => False)
  | y => vcStore T t x y st K

def vcIndexAddr (t : Nat) (x i : AV) (st : List AO) (K : KO) : Prop :=
  match T.el t, x, i with
  | some (e, sz), .v (.one (.tl α sz' enc z xs)), .v (.one (.sc (.int _ n))) => sz' = sz ∧ 0 ≤ n ∧ n < xs.length ∧ K (.d (.ref (enc (xs.getD n.toNat z)))) st
  | some (e, sz), .v (.one (.list sz' xs)), .v (.one (.sc (.int _ n))) => sz' = sz ∧ 0 ≤ n ∧ ∃ cells, xs[n.toNat]? = some cells ∧ K (.d (.ref cells)) st
  | some (e, sz), .h s v lo m, .v (.one (.sc (.int _ n))) => match st[s]? with
    | some (.row v' e' sz' xs) => sz' = sz ∧ v = v' ∧ 0 ≤ n ∧ n < m ∧ K (.ep s v (lo + n.toNat) 0) st
    | _ => False
  | some (e, 1), .bs s m, .v (.one (.sc (.int _ n))) => 0 ≤ n ∧ n < m ∧ K (.ptr s n.toNat) st
  | _, _, _ => False

def vcLo (E : Operand → AV) (o : Option Operand) (K : Nat → Prop) : Prop :=
  match o with
  | none => K 0
  | some x => match E x with
    | .v (.one (.sc (.int .i64 n))) => 0 ≤ n ∧ K n.toNat
    | _ => False
def vcHi (E : Operand → AV) (len : Nat) (o : Option Operand) (K : Nat → Prop) : Prop :=
  match o with
  | none => K len
  | some x => match E x with
    | .v (.one (.sc (.int .i64 n))) => 0 ≤ n ∧ K n.toNat
    | _ => False

def vcSlice (t : Nat) (x : AV) (lo hi : Option Operand) (E : Operand → AV) (st : List AO) (K : KO) : Prop :=
  match x with
  | .v (.one (.sc (.string s))) => T.kd t = .str ∧ vcLo E lo fun l => vcHi E s.size hi fun h => l ≤ h ∧ h ≤ s.size ∧ K (.str (s.extract l h)) st
  | .v (.one (.tl α sz enc z xs)) => match T.el t with
    | some (e, sz') => sz = sz' ∧ vcLo E lo fun l => vcHi E xs.length hi fun h => l ≤ h ∧ h ≤ xs.length ∧ K (.d (.tl α sz enc z ((xs.take h).drop l))) st
    | none => False
  | .v (.one (.list sz xs)) => match T.el t with
    | some (e, sz') => sz = sz' ∧ vcLo E lo fun l => vcHi E xs.length hi fun h => l ≤ h ∧ h ≤ xs.length ∧ K (.list sz ((xs.take h).drop l)) st
    | none => False
  | .h s k off n => match T.el t, st[s]? with
    | some (e, sz'), some (.row k' e' sz xs) => sz = sz' ∧ k = k' ∧ vcLo E lo fun l => vcHi E n hi fun h => l ≤ h ∧ h ≤ n ∧ K (.h s k (off + l) (h - l)) st
    | _, _ => False
  | _ => False

def srcRows (st : List AO) (sz : Nat) (a : AV) (K : List (List D) → Prop) : Prop :=
  match a with
  | .v (.one (.list sz' ys)) => sz' = sz ∧ K ys
  | .v (.one (.tl α sz' enc z ys)) => sz' = sz ∧ K (ys.map enc)
  | .v (.one .nils) => K []
  | .h s k lo n => match st[s]? with
    | some (.row k' e sz' xs) => sz' = sz ∧ k = k' ∧ K ((xs.drop lo).take n)
    | _ => False
  | _ => False

def vcAppend (t : Nat) (x y : AV) (st : List AO) (K : KO) : Prop :=
  match T.ap t, x with
  | some (e, sz, by_), .v (.one .nils) => srcRows st sz y fun ys => ys.length * by_ ≤ 140737488355328 ∧ ys.length ≤ maxLen ∧ K (.h st.length 0 0 ys.length) (st ++ [.row 0 e sz ys])
  | some (e, sz, by_), .v (.one (.full sz' xs)) => match y with
    | .v (.one .nils) => sz' = sz ∧ K (.d (.full sz' xs)) st
    | y => sz' = sz ∧ xs ≠ [] ∧ srcRows st sz y fun ys => ys ≠ [] ∧ (xs.length + ys.length) * by_ ≤ 140737488355328 ∧ xs.length + ys.length ≤ maxLen ∧ K (.h st.length 0 0 (xs.length + ys.length)) (st ++ [.row 0 e sz (xs ++ ys)])
  | some (e, sz, by_), .h s k lo n => match st[s]? with
    | some (.row k' e' sz' xs) => (k = k' ∧ e' = e ∧ sz' = sz ∧ lo = 0) ∧ srcRows st sz y fun ys => (n + ys.length) * by_ ≤ 140737488355328 ∧ n + ys.length ≤ maxLen ∧ K (.h s (k + 1) 0 (n + ys.length)) (st.set s (.row (k + 1) e sz (xs.take n ++ ys)))
    | _ => False
  | _, _ => False

def vcAppendS (t : Nat) (x : AV) (s : ByteArray) (st : List AO) (K : KO) : Prop :=
  match T.bb t, x with
  | some e, .v (.one .nils) => s.size ≤ 140737488351232 ∧ K (.h st.length 0 0 (strRows s).length) (st ++ [.row 0 e 1 (strRows s)])
  | some e, .h r k lo n => match st[r]? with
    | some (.row k' e' sz xs) => (k = k' ∧ e' = e ∧ sz = 1 ∧ lo = 0) ∧ n + s.size ≤ 140737488351232 ∧ K (.h r (k + 1) 0 (n + (strRows s).length)) (st.set r (.row (k + 1) e 1 (xs.take n ++ strRows s)))
    | _ => False
  | _, _ => False

def vcLen (t : Nat) (x : AV) (st : List AO) (K : KO) : Prop :=
  match T.kd t, x with
  | .slice _, .v (.one (.list _ xs)) => K (.int xs.length) st
  | .slice _, .v (.one (.tl _ _ _ _ xs)) => K (.int xs.length) st
  | .slice _, .v (.one .nils) => K (.int 0) st
  | .slice _, .bs _ n => K (.int n) st
  | .slice _, .h s k _ n => match st[s]? with
    | some (.row k' _ _ _) => k = k' ∧ K (.int n) st
    | _ => False
  | .str, .v (.one (.sc (.string s))) => K (.int s.size) st
  | _, _ => False

/-- rows of one's own among the arguments are given out -/
def sealK (st : List AO) : List AV → (List AO → List DV → Prop) → Prop
  | [], K => K st []
  | .v d :: r, K => sealK st r fun st' ds => K st' (d :: ds)
  | .h s k lo n :: r, K => match st[s]? with
    | some (.row k' e sz xs) => (k = k' ∧ lo = 0 ∧ n = xs.length) ∧ sealK (st.set s .gone) r fun st' ds => K st' (.one (.list sz xs) :: ds)
    | _ => False
  | _, _ => False

def scDV : DV → Bool
  | .one (.sc _) => true
  | _ => false

def vcCall (f : AV) (args : List AV) (st : List AO) (K : KO) : Prop :=
  match f with
  | .v (.one (.sc (.func (.func f) ⟨[]⟩ ⟨[]⟩))) => match T.ei f with
    | true => (match args with
      | [a] => K a st
      | _ => False)
    | false => T.cl f = true ∧ (match argsDV args with
    | some ds => (∃ ds' res, Impl P f ds' res ∧ AsLe ds ds' ∧ K (resAV res) st) ∨ ∃ e sz xs, Gives P f ds e sz xs ∧ K (.h st.length 0 0 xs.length) (st ++ [.row 0 e sz xs])
    | none => (∃ res st', Eff P f args st res st' ∧ K (resAV res) st') ∨ (sealK st args fun st' ds => ∃ ds' res, Impl P f ds' res ∧ AsLe ds ds' ∧ K (resAV res) st') ∨
      (sealK st args fun _ ds => ∃ ds' res, Impl P f ds' res ∧ AsLe ds ds' ∧ res.all scDV = true ∧ K (resAV res) st))
  | _ => False

def vcConv (s d : Nat) (x : AV) (st : List AO) (K : KO) : Prop :=
  match T.kd s, T.kd d, x with
  | .other, .other, .ptr i 0 => match st[i]?, T.cv s d with
    | some (.box bT cells), some (b, n) => (b = bT ∧ n = cells.length) ∧ K (.ptr i 0) st
    | _, _ => False
  | .int k', .int k, .v (.one (.sc (.int k2 n))) => k2 = k' ∧ K (.sc (.int k (k.wrap n))) st
  | .str, .slice e, .v (.one (.sc (.string s))) => T.kd e = .int .u8 ∧ K (.bs st.length s.size) (st ++ [.brow e (bytesI s)])
  | .slice e, .str, .bs r n => T.kd e = .int .u8 ∧ (match st[r]? with
    | some (.brow e' ns) => n = ns.length ∧ K (.str ⟨(ns.map fun n => UInt8.ofNat n.toNat).toArray⟩) st
    | _ => False)
  | .slice e, .str, a => T.kd e = .int .u8 ∧ srcRows st 1 a fun ys => ∃ ns : List Int, ys = ns.map byteRow ∧ K (.str ⟨(ns.map fun n => UInt8.ofNat n.toNat).toArray⟩) st
  | _, _, _ => False

def vcOp (op : Op) (E : Operand → AV) (st : List AO) (K : KO) : Prop :=
  match op with
  | .move x => force (E x) fun v => K v st
  | .assign x => force (E x) fun v => K v st
  | .pick c a b => match E c with
    | .v (.one (.sc (.bool b'))) => (b' = true → force (E a) fun v => K v st) ∧ (b' = false → force (E b) fun v => K v st)
    | _ => False
  | .binOp op t x y _ => vcBin T op t (E x) (E y) st K
  | .unOp .not _ x => match E x with
    | .v (.one (.sc (.bool b))) => K (.bool (!b)) st
    | _ => False
  | .unOp .neg _ x => match E x with
    | .v (.one (.sc (.int k b))) => vcArith k (0 - b) st K
    | _ => False
  | .convert s d x => vcConv T s d (E x) st K
  | .alloc t => match T.zb t with
    | some cells => K (.ptr st.length 0) (st ++ [.box t cells])
    | none => False
  | .box t x => match E x with
    | .v (.agg ds) => K (.ptr st.length 0) (st ++ [.box t (ds.map AV.d)])
    | a => okSingle st a ∧ K (.ptr st.length 0) (st ++ [.box t [a]])
  | .build t parts => match T.zd t, T.bt t with
    | some zs, some ps => match fillD (ps[·]?) zs (parts.toList.map fun p => (p.1, E p.2)) with
      | some ds => K (.agg ds) st
      | none => False
    | _, _ => False
  | .buildSlice t 0 ⟨[]⟩ => match T.el t with
    | some (e, sz) => K (.h st.length 0 0 0) (st ++ [.row 0 e sz []])
    | none => False
  | .buildSlice t len parts => match T.el t with
    | some (e, sz) => match T.zd e with
      | some zs => match fillD (fun i => some (i * sz, sz)) ((List.range (len * sz)).map fun i => zs.getD (i % sz) .nils) (parts.toList.map fun p => (p.1, E p.2)) with
        | some ds => zs.length = sz ∧ 0 < len * sz ∧ len * sz ≤ 16777216 ∧ ds.length = len * sz ∧ (K (.list sz (chunk sz ds len)) st ∨ K (.d (.full sz (chunk sz ds len))) st ∨ K (.h st.length 0 0 len) (st ++ [.row 0 e sz (chunk sz ds len)]))
        | none => False
      | none => False
    | none => False
  | .load t a => vcLoad T t (E a) st K
  | .store t a x => vcStoreG T t (E a) (E x) st K
  | .fieldAddr s x f => match T.fo s f, E x with
    | some k, .ptr i off => K (.ptr i (off + k)) st
    | some k, .v (.one (.ref cells)) => K (.d (.ref (cells.drop k))) st
    | some k, .ep i v j off => match st[i]? with
      | some (.row v' _ _ _) => v = v' ∧ K (.ep i v j (off + k)) st
      | _ => False
    | _, _ => False
  | .indexAddr t x i => vcIndexAddr T t (E x) (E i) st K
  | .index t x i => match E x, E i with
    | .v (.one (.sc (.string s))), .v (.one (.sc (.int _ n))) => T.kd t = .str ∧ 0 ≤ n ∧ n < s.size ∧ K (.byte (byteAt s n.toNat)) st
    | _, _ => False
  | .slice t x lo hi none => vcSlice T t (E x) lo hi E st K
  | .extract x i => match E x with
    | .tup vs => match vs[i]? with
      | some d => K (.v d) st
      | none => False
    | _ => False
  | .makeFunc (.func f) ⟨[]⟩ ⟨[]⟩ => K (fnAV f) st
  | .call { callee := .value x, args := args, .. } => vcCall P T (E x) (args.toList.map E) st K
  | .call { callee := .builtin .len, args := ⟨[x]⟩, argTypes := ⟨[t]⟩ } => vcLen T t (E x) st K
  | .call { callee := .builtin .max, args := ⟨[x, y]⟩, .. } => match E x, E y with
    | .v (.one (.sc (.int k a))), .v (.one (.sc (.int k' b))) => k' = k ∧ K (.sc (.int k (if b > a then b else a))) st
    | _, _ => False
  | .call { callee := .builtin .append, args := ⟨[x, y]⟩, argTypes := ⟨[t, t']⟩ } => match E y with
    | .v (.one (.sc (.string s))) => T.kd t' = .str ∧ vcAppendS T t (E x) s st K
    | y => t' = t ∧ vcAppend T t (E x) y st K
  | .nilCheck x => match E x with
    | .ptr s off => K (.ptr s off) st
    | .v (.one (.ref cells)) => K (.d (.ref cells)) st
    | .ep s v i off => match st[s]? with
      | some (.row v' _ _ _) => v = v' ∧ K (.ep s v i off) st
      | _ => False
    | _ => False
  | .makeMap t none => K (.omap st.length) (st ++ [.mp []])
  | .lookup t x i false => match E x, E i with
    | .omap s, .v (.one (.sc (.string k))) => match st[s]? with
      | some (.mp es) => ∃ zd l d, mapT P t = some zd ∧ es = l.map strE ∧ lookD zd k l = d ∧ K (.d d) st
      | _ => False
    | _, _ => False
  | .mapUpdate t x i y => match E x, E i, E y with
    | .omap s, .v (.one (.sc (.string k))), .v (.one d) => match st[s]? with
      | some (.mp es) => ∃ zd l, mapT P t = some zd ∧ es = l.map strE ∧ K .junk (st.set s (.mp ((updD k d l).map strE)))
      | _ => False
    | _, _, _ => False
  | _ => False

/-- .. or one of which one of two things comes: whether a list is nil -/
def vcOp2 (op : Op) (E : Operand → AV) (st : List AO) (K : KO) : Prop :=
  match op with
  | .binOp .eql t x (.const (.slice none 0 0)) _ => match T.kd t, E x with
    | .slice _, .v (.one (.tl _ _ _ _ xs)) => (xs = [] → K (.bool true) st) ∧ K (.bool false) st
    | .slice _, .v (.one (.list _ xs)) => (xs = [] → K (.bool true) st) ∧ K (.bool false) st
    | .slice _, .v (.one .nils) => K (.bool true) st
    | _, _ => False
  | op => vcOp P T op E st K

/-- operations in their order -/
def vcL (ops : List Oper) : List Oper → Env → List AO → (Env → List AO → Prop) → Prop
  | [], env, st, K => K env st
  | o :: rest, env, st, K => match o.guard with
    | none => vcOp2 P T o.op (evalE env) st fun v st' => vcL ops rest (updO env o.dst v) st' K
    | some (j, want) => match ops[j]? with
      | some oj => match oj.dst with
        | some d => match env d with
          | .v (.one (.sc (.bool b))) => d < N.n ∧ (b = want → vcOp P T o.op (evalE env) st fun v st' => vcL ops rest (updO env o.dst v) st' K) ∧ (b ≠ want → vcL ops rest (updO env o.dst (.tup [])) st K)
          | .tup [] => d < N.n ∧ vcL ops rest (updO env o.dst (.tup [])) st K
          | _ => False
        | none => False
      | none => False

/-- operations in an open order: none turns an own thing -/
def vcQ (ops : List Oper) (st : List AO) : List Oper → Env → (Env → Prop) → Prop
  | [], env, K => K env
  | o :: rest, env, K => match o.guard with
    | none => vcOp P T o.op (evalE env) st fun v st' => st' = st ∧ vcQ ops st rest (updO env o.dst v) K
    | some (j, want) => match ops[j]? with
      | some oj => match oj.dst with
        | some d => match env d with
          | .v (.one (.sc (.bool b))) => d < N.n ∧ (b = want → vcOp P T o.op (evalE env) st fun v st' => st' = st ∧ vcQ ops st rest (updO env o.dst v) K) ∧ (b ≠ want → vcQ ops st rest (updO env o.dst (.tup [])) K)
          | _ => False
        | none => False
      | none => False

def vc : Code → Env → List AO → Post → Prop
  | .skip, env, st, Q => Q .normal env st
  | .label _, env, st, Q => Q .normal env st
  | .exit l, env, st, Q => Q (.exit l) env st
  | .goto l, env, st, Q => Q (.goto l) env st
  | .ret, env, st, Q => Q .ret env st
  | .seq (.label l) y, env, st, Q => WP P N (.seq (.label l) y) env st Q
  | .seq x y, env, st, Q => vc x env st (Then (fun env st => vc y env st Q) Q)
  | .cond c x y, env, st, Q => match evalE env c with
    | .v (.one (.sc (.bool b))) => (b = true → vc x env st Q) ∧ (b = false → vc y env st Q)
    | _ => False
  | .block id c, env, st, Q => vc c env st (InBlock id Q)
  | .region _ ops false, env, st, Q => vcL P T N ops.toList ops.toList env st (Q .normal)
  | .region _ ops true, env, st, Q => vcQ P T N ops.toList st ops.toList env fun env => Q .normal env st
  | c, env, st, Q => WP P N c env st Q

/-- every slot that is written is there; every open region may be run in its text's order -/
def codeOk (N : Fm) : Code → Bool
  | .region _ ops draw => ops.all (fun o => match o.dst with | some d => decide (d < N.n) | none => true) && (!draw || Region.lexB .any ops)
  | .seq a b => codeOk N a && codeOk N b
  | .cond _ a b => codeOk N a && codeOk N b
  | .block _ c => codeOk N c
  | _ => true

end
end Go.Proofs.Nw.K
end
