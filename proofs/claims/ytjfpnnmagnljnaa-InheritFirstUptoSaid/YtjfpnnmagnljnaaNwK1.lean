/- K1: data, representation, own objects: definitions and monotonicity. -/
import Derived.Below
import Derived.Laws.AppendOwn
import Derived.Laws.OwnMore
import Derived.ScopeJumps
import Derived.Orders
import Derived.KernelRfl
open Go Go.RowKit
set_option linter.unusedVariables false
namespace Go.Proofs.Nw.K

/-- What is never written again: cells, and whole objects (maps). -/
structure Sig where
  cell : Nat → Nat → Option Value
  obj : Nat → Option Obj

inductive D : Type 1 where
  | sc (v : Value)
  | nils
  | list (sz : Nat) (xs : List (List D))
  | full (sz : Nat) (xs : List (List D))
  | tl (α : Type) (sz : Nat) (enc : α → List D) (z : α) (xs : List α)
  | ref (cells : List D)
  | map (es : List (Value × D))

def scal : Value → Bool
  | .bool _ | .int _ _ | .float _ _ | .complex _ _ _ | .string _ | .nilFunc | .pointer none | .nilIface | .map none => true
  | .func (.func _) f c => f.size == 0 && c.size == 0
  | _ => false

inductive Rep (σ : Sig) : Value → D → Prop
  | sc {v : Value} (h : scal v = true) : Rep σ v (.sc v)
  | nils : Rep σ (.slice none 0 0) .nils
  | nil {a : Option Addr} {c sz : Nat} (hm : c ≤ maxLen) : Rep σ (.slice a 0 c) (.list sz [])
  | list {b off n c sz : Nat} {xs : List (List D)} (val : Nat → Nat → Value)
      (hn : n = xs.length) (h0 : 0 < n) (hc : n ≤ c) (hm : c ≤ maxLen)
      (hsz : ∀ (i : Nat) (x : List D), xs[i]? = some x → x.length = sz)
      (hcell : ∀ i j, i < n → j < sz → σ.cell b (off + i * sz + j) = some (val i j))
      (hval : ∀ i j x d, xs[i]? = some x → x[j]? = some d → Rep σ (val i j) d) :
      Rep σ (.slice (some ⟨b, off, none⟩) n c) (.list sz xs)
  | full {v : Value} {sz : Nat} {xs : List (List D)} (h : Rep σ v (.list sz xs)) (hc : ∀ a n c, v = .slice a n c → c = n) : Rep σ v (.full sz xs)
  | tl {v : Value} {α : Type} {sz : Nat} {enc : α → List D} {z : α} {xs : List α} (h : Rep σ v (.list sz (xs.map enc))) : Rep σ v (.tl α sz enc z xs)
  | ref {b off : Nat} {cells : List D} (val : Nat → Value)
      (hcell : ∀ j, j < cells.length → σ.cell b (off + j) = some (val j))
      (hval : ∀ j d, cells[j]? = some d → Rep σ (val j) d) : Rep σ (.pointer (some ⟨b, off, none⟩)) (.ref cells)
  | map {r : Nat} {es : List (Value × D)} {entries : Array MapEntry} {clock : Nat} (val : Nat → Value)
      (hobj : σ.obj r = some (.map entries clock)) (hl : entries.size = es.length)
      (hkey : ∀ (i : Nat) (e : Value × D), es[i]? = some e → ∃ me : MapEntry, entries[i]? = some me ∧ me.key = e.1 ∧ me.val = val i)
      (hval : ∀ (i : Nat) k d, es[i]? = some (k, d) → Rep σ (val i) d) : Rep σ (.map (some r)) (.map es)

structure Sig.le (σ σ' : Sig) : Prop where
  cell : ∀ b o v, σ.cell b o = some v → σ'.cell b o = some v
  obj : ∀ r o, σ.obj r = some o → σ'.obj r = some o

theorem Sig.le.refl (σ : Sig) : σ.le σ := ⟨fun _ _ _ h => h, fun _ _ h => h⟩
theorem Sig.le.trans {a b c : Sig} (h : a.le b) (k : b.le c) : a.le c := ⟨fun x y z e => k.cell x y z (h.cell x y z e), fun x y e => k.obj x y (h.obj x y e)⟩

theorem Rep.mono {σ σ' : Sig} {v : Value} {d : D} (h : Rep σ v d) (hl : σ.le σ') : Rep σ' v d := by
  induction h with
  | sc h => exact .sc h
  | nils => exact .nils
  | nil hm => exact .nil hm
  | list val hn h0 hc hm hsz hcell _ ih => exact .list val hn h0 hc hm hsz (fun i j hi hj => hl.cell _ _ _ (hcell i j hi hj)) ih
  | tl _ ih => exact .tl ih
  | full _ hc ih => exact .full ih hc
  | ref val hcell _ ih => exact .ref val (fun j hj => hl.cell _ _ _ (hcell j hj)) ih
  | map val hobj hl' hkey _ ih => exact .map val (hl.obj _ _ hobj) hl' hkey ih

/-- cells, one by one -/
def RepL (σ : Sig) (vs : List Value) (ds : List D) : Prop := vs.length = ds.length ∧ ∀ (i : Nat) v d, vs[i]? = some v → ds[i]? = some d → Rep σ v d

theorem RepL.mono {σ σ' : Sig} {vs ds} (h : RepL σ vs ds) (hl : σ.le σ') : RepL σ' vs ds := ⟨h.1, fun i v d a b => (h.2 i v d a b).mono hl⟩

inductive DV : Type 1 where
  | one (x : D)
  | agg (cells : List D)

def RepV (σ : Sig) (v : Value) : DV → Prop
  | .one x => Rep σ v x
  | .agg cs => ∃ vs : List Value, v = .agg vs.toArray ∧ RepL σ vs cs

theorem RepV.mono {σ σ' : Sig} {v d} (h : RepV σ v d) (hl : σ.le σ') : RepV σ' v d := by
  cases d with
  | one x => exact Rep.mono h hl
  | agg cs => obtain ⟨vs, e, h⟩ := h; exact ⟨vs, e, h.mono hl⟩

def RepVs (σ : Sig) (vs : List Value) (ds : List DV) : Prop := vs.length = ds.length ∧ ∀ (i : Nat) v d, vs[i]? = some v → ds[i]? = some d → RepV σ v d

theorem RepVs.mono {σ σ' : Sig} {vs ds} (h : RepVs σ vs ds) (hl : σ.le σ') : RepVs σ' vs ds := ⟨h.1, fun i v d a b => (h.2 i v d a b).mono hl⟩

inductive AV : Type 1 where
  | v (x : DV)
  | ptr (s off : Nat)
  | h (s k lo n : Nat)
  | ep (s k i off : Nat)
  | omap (s : Nat)
  | tup (vs : List DV)
  | clo (f : FuncId) (caps : List Nat)
  | junk

abbrev AV.d (x : D) : AV := .v (.one x)
abbrev AV.agg (cells : List D) : AV := .v (.agg cells)
abbrev AV.sc (v : Value) : AV := .v (.one (.sc v))
abbrev AV.int (n : Int) : AV := .v (.one (.sc (.int .i64 n)))
abbrev AV.byte (n : Int) : AV := .v (.one (.sc (.int .u8 n)))
abbrev AV.bool (b : Bool) : AV := .v (.one (.sc (.bool b)))
abbrev AV.str (s : ByteArray) : AV := .v (.one (.sc (.string s)))
abbrev AV.list (sz : Nat) (xs : List (List D)) : AV := .v (.one (.list sz xs))
abbrev AV.nils : AV := .v (.one .nils)

inductive AO : Type 1 where
  | box (bT : TypeId) (cells : List AV)
  | row (k e sz : Nat) (xs : List (List D))
  | mp (es : List (Value × D))
  | gone

/-- the slice value of a handle on a row of xs.length = len -/
def HRep (g : Value) (sz len lo n : Nat) (v : Value) : Prop :=
  lo + n ≤ len ∧ ((lo = 0 ∧ n = len ∧ v = g) ∨ ∃ b m c, g = .slice (some ⟨b, 0, none⟩) m c ∧ lo + n ≤ c ∧ ((n = 0 ∧ 0 < lo ∧ ∃ a, v = .slice a 0 (c - lo)) ∨ v = .slice (some ⟨b, lo * sz, none⟩) n (c - lo)))

def RepA (σ : Sig) (gh : List Value) (st : List AO) (v : Value) : AV → Prop
  | .v x => RepV σ v x
  | .ptr s off => ∃ b, gh[s]? = some (.pointer (some ⟨b, 0, none⟩)) ∧ v = .pointer (some ⟨b, off, none⟩)
  | .h s k lo n => ∃ g o, gh[s]? = some g ∧ st[s]? = some o ∧ ∀ k' e sz xs, o = .row k' e sz xs → k ≤ k' ∧ (k = k' → HRep g sz xs.length lo n v)
  | .ep s k i off => ∃ g o, gh[s]? = some g ∧ st[s]? = some o ∧ ∀ k' e sz xs, o = .row k' e sz xs → k ≤ k' ∧ (k = k' → i < xs.length ∧ ∃ b m c, g = .slice (some ⟨b, 0, none⟩) m c ∧ v = .pointer (some ⟨b, i * sz + off, none⟩))
  | .omap s => gh[s]? = some v ∧ ∃ r, v = .map (some r)
  | .tup vs => ∃ us : List Value, v = .tuple us.toArray ∧ RepVs σ us vs
  | .clo f caps => ∃ us : List Value, v = .func (.func f) #[] us.toArray ∧ us.length = caps.length ∧ ∀ (i : Nat) u s, us[i]? = some u → caps[i]? = some s → gh[s]? = some u ∧ ∃ b, u = .pointer (some ⟨b, 0, none⟩)
  | .junk => True

def blkOf : Value → Option Nat
  | .pointer (some a) => some a.block
  | .slice (some a) _ _ => some a.block
  | .map (some r) => some r
  | _ => none

/-- a block of which nothing is sealed -/
def Uns (σ : Sig) (b : Nat) : Prop := (∀ o, σ.cell b o = none) ∧ σ.obj b = none

def ObjOk (σ : Sig) (gh : List Value) (st : List AO) (B : Nat) (w : World) (g : Value) : AO → Prop
  | .box bT cells => ∃ (b : Nat) (vals : Array Value), g = .pointer (some ⟨b, 0, none⟩) ∧ B ≤ b ∧ w.heap[b]? = some (.cells vals bT (0, 0)) ∧ vals.size = cells.length ∧
      (∀ (i : Nat) v c, vals[i]? = some v → cells[i]? = some c → RepA σ gh st v c) ∧ Uns σ b ∧ ∀ v ∈ vals, v.oneCell' = true
  | .row _ e sz xs => ∃ vals, w.ownsRow B e sz g xs.length vals ∧ (∀ (i : Nat) x, xs[i]? = some x → x.length = sz) ∧
      (∀ (i j : Nat) x d, xs[i]? = some x → x[j]? = some d → ∃ v, vals[i * sz + j]? = some v ∧ Rep σ v d) ∧ (∀ b, blkOf g = some b → Uns σ b) ∧ ∀ v ∈ vals, v.oneCell' = true
  | .mp es => ∃ (r : Nat) (entries : Array MapEntry) (clock : Nat), g = .map (some r) ∧ B ≤ r ∧ w.heap[r]? = some (.map entries clock) ∧ entries.size = es.length ∧
      (∀ (i : Nat) k d, es[i]? = some (k, d) → ∃ me : MapEntry, entries[i]? = some me ∧ me.key = k ∧ Rep σ me.val d) ∧ Uns σ r
  | .gone => True

structure Sealed (σ : Sig) (w : World) : Prop where
  cell : ∀ b o v, σ.cell b o = some v → w.cell? ⟨b, o, none⟩ = some v ∧ v.oneCell' = true
  obj : ∀ r o, σ.obj r = some o → w.heap[r]? = some o

structure Base (w0 : World) (σ0 σ : Sig) (gh : List Value) (st : List AO) (w : World) : Prop where
  below : Below w0.heap.size w0 w
  ext : ∀ b, b < w0.heap.size → σ.cell b = σ0.cell b ∧ σ.obj b = σ0.obj b
  sl : Sealed σ w
  len : gh.length = st.length
  sep : ∀ (s s' b : Nat), s ≠ s' → gh[s]?.bind blkOf = some b → gh[s']?.bind blkOf ≠ some b
  lt : ∀ (s : Nat) g b, gh[s]? = some g → blkOf g = some b → b < w.heap.size
  obj : ∀ (s : Nat) o g, st[s]? = some o → gh[s]? = some g → ObjOk σ gh st w0.heap.size w g o

/-- what stays so: from one state of the own things to a later one -/
structure Fut (w0 : World) (σ0 σ : Sig) (gh : List Value) (st : List AO) (σ' : Sig) (gh' : List Value) (st' : List AO) (w' : World) : Prop where
  base : Base w0 σ0 σ' gh' st' w'
  keep : ∀ v a, RepA σ gh st v a → RepA σ' gh' st' v a

def upd (E : Nat → AV) (t : Nat) (v : AV) : Nat → AV := fun s => if s = t then v else E s
theorem upd_same (E : Nat → AV) (t : Nat) (v : AV) : upd E t v t = v := by simp [upd]
theorem upd_other (E : Nat → AV) {t s : Nat} (v : AV) (h : s ≠ t) : upd E t v s = E s := by simp [upd, h]

def cD : Value → D
  | .slice none 0 0 => .nils
  | v => .sc v

def cAV : Value → AV
  | .agg cs => .agg (cs.toList.map cD)
  | v => .d (cD v)

def cOk : Value → Bool
  | .agg cs => cs.toList.all fun c => match c with | .slice none 0 0 => true | v => scal v
  | .slice none 0 0 => true
  | v => scal v

def evalE (env : Nat → AV) : Operand → AV
  | .tmp t => env t
  | .const v => if cOk v then cAV v else .junk
  | .func f => .sc (.func (.func f) #[] #[])
  | .global _ => .junk

theorem rep_cD {σ : Sig} {v : Value} (h : (match v with | .slice none 0 0 => true | v => scal v) = true) : Rep σ v (cD v) := by
  unfold cD
  split at h
  · exact .nils
  · exact .sc h

theorem repV_cAV {σ : Sig} {gh st} {v : Value} (h : cOk v = true) : RepA σ gh st v (cAV v) := by
  cases v with
  | agg cs =>
    refine ⟨cs.toList, by simp, by simp, fun i u d hu hd => ?_⟩
    simp only [List.getElem?_map, Option.map_eq_some_iff] at hd
    obtain ⟨u', hu', rfl⟩ := hd
    rw [hu] at hu'
    cases hu'
    exact rep_cD (List.all_eq_true.1 h u (List.mem_of_getElem? hu))
  | slice a n c =>
    rcases a with _ | a
    · cases n with
      | zero => cases c with
        | zero => exact Rep.nils
        | succ c => simp [cOk, scal] at h
      | succ n => simp [cOk, scal] at h
    · simp [cOk, scal] at h
  | _ => exact Rep.sc h

end Go.Proofs.Nw.K
