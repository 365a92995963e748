/- Bundle 1: NwK0, NwK1, NwK2, NwK3, NwK4, NwK5, NwK6, NwK7. -/
import Derived.Below
import Derived.Laws.AppendOwn
import Derived.Laws.OwnMore
import Derived.ScopeJumps
import Derived.Orders
import Derived.KernelRfl
import Derived.WalkKit
import Derived.Laws.Strings
import Derived.IntWalk
import Derived.Maps.AppendAt
set_option linter.constructorNameAsVariable false
set_option linter.unusedVariables false
set_option linter.unusedSimpArgs false
set_option linter.unusedSectionVars false
section
/- K0: no run takes a draw back. -/
open Go Go.RowKit
namespace Go.Proofs.Nw.K
theorem ask_drawn {α : Type} : ∀ (c : Ask α) (w : World), w.drawn ≤ (w.ask c).2.drawn
  | .done a, w => Nat.le_refl _
  | .ask what range k, w => by
    unfold World.ask
    simp only
    split
    · exact ask_drawn (k 0) w
    · exact Nat.le_trans (Nat.le_succ _) (ask_drawn (k _) { w with drawn := w.drawn + 1 })
theorem bindE {α β : Type} {x : Except String α} {f : α → Except String β} {r : β} (h : (x >>= f) = .ok r) : ∃ a, x = .ok a ∧ f a = .ok r := by
  cases x with
  | error e => cases h
  | ok a => exact ⟨a, rfl, h⟩
theorem viewStore_drawn {p : Program} {w : World} {at_ : Addr} {u : TypeId} {k : Addr} {v : Value} {b : Bool} {r : World × List Addr} (h : w.viewStore p at_ u k v b = .ok r) : r.1.drawn = w.drawn := by
  unfold World.viewStore at h
  have thr : ∀ {α β : Type} {e : String} {f : α → Except String β} {r : β}, ((MonadExcept.throw e : Except String α) >>= f) = .ok r → False := fun h => by cases h
  extract_lets jp at h
  by_cases hc : (!tight p p.depth u) = true
  · rw [if_pos hc] at h
    exact (thr h).elim
  · rw [if_neg hc] at h
    simp only [jp] at h
    obtain ⟨x, _, h⟩ := bindE h
    obtain ⟨c, e, frozen, first, like, cells⟩ := x
    simp only at h
    split at h
    · split at h
      · exact (thr h).elim
      · obtain ⟨c', _, h⟩ := bindE h
        cases h
        rfl
    · cases h
theorem farStore_drawn {p : Program} {w : World} {a : Addr} {v : Value} {b : Bool} {r : World × List Addr} (h : w.farStore p a v b = .ok r) : r.1.drawn = w.drawn := by
  unfold World.farStore at h
  split at h
  · split at h
    · rename_i r' h'
      cases h
      exact viewStore_drawn h'
    · cases h
  · cases h
theorem run_drawn {α : Type} (P : Program) : ∀ (s : Sem α) (w : World) {a : α} {w' : World}, s.run P w = .ok a w' → w.drawn ≤ w'.drawn := by
  intro s
  induction s with
  | pure a => intro w a w' h; cases h; exact Nat.le_refl _
  | load m a k ih =>
    intro w x w' h
    unfold Sem.run at h
    split at h
    · exact ih _ _ h
    · split at h
      · exact ih _ _ h
      · cases h
  | store m a v k ih =>
    intro w x w' h
    cases v
    all_goals try (unfold Sem.run at h; cases h; done)
    all_goals
      unfold Sem.run at h
      split at h
      · split at h
        · cases h
        · exact Nat.le_trans (Nat.le_refl _) (ih (w.setCell a _) h)
      · split at h
        · rename_i w1 t hf
          have := farStore_drawn hf
          have h2 := ih _ h
          simp only at this
          omega
        · cases h
  | new o k ih => intro w x w' h; exact ih _ { w with heap := w.heap.push o } h
  | shape r k ih => intro w x w' h; exact ih _ _ h
  | freeze a n k ih =>
    intro w x w' h
    have h2 := ih (w.freeze a n) h
    have : (w.freeze a n).drawn = w.drawn := by unfold World.freeze; split <;> rfl
    omega
  | frozen a k ih => intro w x w' h; exact ih _ _ h
  | getObj r k ih =>
    intro w x w' h
    unfold Sem.run at h
    split at h
    · cases h
    · exact ih _ _ h
    · cases h
  | setObj r o k ih =>
    intro w x w' h
    unfold Sem.run at h
    split at h
    · cases h
    · exact ih { w with heap := w.heap.setIfInBounds r o } h
    · cases h
  | choose q k ih =>
    intro w x w' h
    unfold Sem.run at h
    split at h
    · exact ih _ _ h
    · exact Nat.le_trans (Nat.le_succ _) (ih _ { w with drawn := w.drawn + 1 } h)
  | sys c k ih =>
    intro w x w' h
    have h2 := ih _ (w.sys c).2 h
    have : w.drawn ≤ (w.sys c).2.drawn := by
      unfold World.sys
      split
      · exact Nat.le_refl _
      · rename_i r os w1 h1
        have := ask_drawn (Kernel.perform c w.os) w
        rw [h1] at this
        exact this
    omega
  | program k ih => intro w x w' h; exact ih _ _ h
  | mark m k ih => intro w x w' h; exact ih _ h
  | halt h => intro w x w' h; cases h
end Go.Proofs.Nw.K
end
section
/- K1: data, representation, own objects: definitions and monotonicity. -/
open Go Go.RowKit
namespace Go.Proofs.Nw.K
structure Sig where
  cell : Nat → Nat → Option Value
  obj : Nat → Option Obj
inductive D : Type 1 where
  | sc (v : Value)
  | nils
  | list (sz : Nat) (xs : List (List D))
  | full (sz : Nat) (xs : List (List D))
  | sp (sz : Nat) (xs : List (List D)) (n : Nat)
  | tl (α : Type) (sz : Nat) (enc : α → List D) (z : α) (xs : List α)
  | ref (cells : List D)
  | map (es : List (Value × D))
  | any
  | opt (b : Bool) (cells : List D)
def scal : Value → Bool
  | .bool _ | .int _ _ | .float _ _ | .complex _ _ _ | .string _ | .nilFunc | .pointer none | .nilIface | .map none => true
  | .func (.func _) f c => f.size == 0 && c.size == 0
  | _ => false
inductive Rep (σ : Sig) : Value → D → Prop
  | sc {v : Value} (h : scal v = true) : Rep σ v (.sc v)
  | nils : Rep σ (.slice none 0 0) .nils
  | nil {a : Option Addr} {c sz : Nat} (hm : c ≤ maxLen) : Rep σ (.slice a 0 c) (.list sz [])
  | list {b off n c sz : Nat} {xs : List (List D)} (val : Nat → Nat → Value)
      (hn : n = xs.length) (h0 : 0 < n) (hc : n ≤ c) (hm : c ≤ maxLen)
      (hsz : ∀ (i : Nat) (x : List D), xs[i]? = some x → x.length = sz)
      (hcell : ∀ i j, i < n → j < sz → σ.cell b (off + i * sz + j) = some (val i j))
      (hval : ∀ i j x d, xs[i]? = some x → x[j]? = some d → Rep σ (val i j) d) :
      Rep σ (.slice (some ⟨b, off, none⟩) n c) (.list sz xs)
  | full {v : Value} {sz : Nat} {xs : List (List D)} (h : Rep σ v (.list sz xs)) (hc : ∀ a n c, v = .slice a n c → c = n) : Rep σ v (.full sz xs)
  | tl {v : Value} {α : Type} {sz : Nat} {enc : α → List D} {z : α} {xs : List α} (h : Rep σ v (.list sz (xs.map enc))) : Rep σ v (.tl α sz enc z xs)
  | sp {b off n c sz : Nat} {xs : List (List D)} (val : Nat → Nat → Value)
      (hn : n ≤ xs.length) (h0 : 0 < xs.length) (hc : xs.length ≤ c) (hm : c ≤ maxLen)
      (hsz : ∀ (i : Nat) (x : List D), xs[i]? = some x → x.length = sz)
      (hcell : ∀ i j, i < xs.length → j < sz → σ.cell b (off + i * sz + j) = some (val i j))
      (hval : ∀ i j x d, xs[i]? = some x → x[j]? = some d → Rep σ (val i j) d) : Rep σ (.slice (some ⟨b, off, none⟩) n c) (.sp sz xs n)
  | ref {b off : Nat} {cells : List D} (val : Nat → Value)
      (hcell : ∀ j, j < cells.length → σ.cell b (off + j) = some (val j))
      (hval : ∀ j d, cells[j]? = some d → Rep σ (val j) d) : Rep σ (.pointer (some ⟨b, off, none⟩)) (.ref cells)
  | any {v : Value} (h : v.oneCell' = true) : Rep σ v .any
  | optN {cells : List D} : Rep σ (.pointer none) (.opt false cells)
  | optS {v : Value} {cells : List D} (h : Rep σ v (.ref cells)) : Rep σ v (.opt true cells)
  | map {r : Nat} {es : List (Value × D)} {entries : Array MapEntry} {clock : Nat} (val : Nat → Value)
      (hobj : σ.obj r = some (.map entries clock)) (hl : entries.size = es.length)
      (hkey : ∀ (i : Nat) (e : Value × D), es[i]? = some e → ∃ me : MapEntry, entries[i]? = some me ∧ me.key = e.1 ∧ me.val = val i)
      (hval : ∀ (i : Nat) k d, es[i]? = some (k, d) → Rep σ (val i) d) : Rep σ (.map (some r)) (.map es)
structure Sig.le (σ σ' : Sig) : Prop where
  cell : ∀ b o v, σ.cell b o = some v → σ'.cell b o = some v
  obj : ∀ r o, σ.obj r = some o → σ'.obj r = some o
theorem Sig.le.refl (σ : Sig) : σ.le σ := ⟨fun _ _ _ h => h, fun _ _ h => h⟩
theorem Sig.le.trans {a b c : Sig} (h : a.le b) (k : b.le c) : a.le c := ⟨fun x y z e => k.cell x y z (h.cell x y z e), fun x y e => k.obj x y (h.obj x y e)⟩
theorem Rep.mono {σ σ' : Sig} {v : Value} {d : D} (h : Rep σ v d) (hl : σ.le σ') : Rep σ' v d := by
  induction h with
  | sc h => exact .sc h
  | nils => exact .nils
  | nil hm => exact .nil hm
  | list val hn h0 hc hm hsz hcell _ ih => exact .list val hn h0 hc hm hsz (fun i j hi hj => hl.cell _ _ _ (hcell i j hi hj)) ih
  | tl _ ih => exact .tl ih
  | sp val hn h0 hc hm hsz hcell _ ih => exact .sp val hn h0 hc hm hsz (fun i j hi hj => hl.cell _ _ _ (hcell i j hi hj)) ih
  | full _ hc ih => exact .full ih hc
  | ref val hcell _ ih => exact .ref val (fun j hj => hl.cell _ _ _ (hcell j hj)) ih
  | any h => exact .any h
  | optN => exact .optN
  | optS _ ih => exact .optS ih
  | map val hobj hl' hkey _ ih => exact .map val (hl.obj _ _ hobj) hl' hkey ih
def RepL (σ : Sig) (vs : List Value) (ds : List D) : Prop := vs.length = ds.length ∧ ∀ (i : Nat) v d, vs[i]? = some v → ds[i]? = some d → Rep σ v d
theorem RepL.mono {σ σ' : Sig} {vs ds} (h : RepL σ vs ds) (hl : σ.le σ') : RepL σ' vs ds := ⟨h.1, fun i v d a b => (h.2 i v d a b).mono hl⟩
inductive DV : Type 1 where
  | one (x : D)
  | agg (cells : List D)
def RepV (σ : Sig) (v : Value) : DV → Prop
  | .one x => Rep σ v x
  | .agg cs => ∃ vs : List Value, v = .agg vs.toArray ∧ RepL σ vs cs
theorem RepV.mono {σ σ' : Sig} {v d} (h : RepV σ v d) (hl : σ.le σ') : RepV σ' v d := by
  cases d with
  | one x => exact Rep.mono h hl
  | agg cs => obtain ⟨vs, e, h⟩ := h; exact ⟨vs, e, h.mono hl⟩
def RepVs (σ : Sig) (vs : List Value) (ds : List DV) : Prop := vs.length = ds.length ∧ ∀ (i : Nat) v d, vs[i]? = some v → ds[i]? = some d → RepV σ v d
theorem RepVs.mono {σ σ' : Sig} {vs ds} (h : RepVs σ vs ds) (hl : σ.le σ') : RepVs σ' vs ds := ⟨h.1, fun i v d a b => (h.2 i v d a b).mono hl⟩
inductive PC : Type 1 where
  | o (s : Nat)
  | d (x : D)
inductive AV : Type 1 where
  | pkg (cs : List PC)
  | v (x : DV)
  | ptr (s off : Nat)
  | h (s k lo n : Nat)
  | ep (s k i off : Nat)
  | omap (s : Nat)
  | tup (vs : List DV)
  | clo (f : FuncId) (caps : List Nat)
  | bs (s n : Nat)
  | junk
abbrev AV.d (x : D) : AV := .v (.one x)
abbrev AV.agg (cells : List D) : AV := .v (.agg cells)
abbrev AV.sc (v : Value) : AV := .v (.one (.sc v))
abbrev AV.int (n : Int) : AV := .v (.one (.sc (.int .i64 n)))
abbrev AV.byte (n : Int) : AV := .v (.one (.sc (.int .u8 n)))
abbrev AV.bool (b : Bool) : AV := .v (.one (.sc (.bool b)))
abbrev AV.str (s : ByteArray) : AV := .v (.one (.sc (.string s)))
abbrev AV.list (sz : Nat) (xs : List (List D)) : AV := .v (.one (.list sz xs))
abbrev AV.nils : AV := .v (.one .nils)
inductive AO : Type 1 where
  | box (bT : TypeId) (cells : List AV)
  | row (k e sz : Nat) (xs : List (List D))
  | mp (es : List (Value × AV))
  | brow (e : TypeId) (ns : List Int)
  | gone
def HRep (g : Value) (sz len lo n : Nat) (v : Value) : Prop :=
  lo + n ≤ len ∧ ((lo = 0 ∧ n = len ∧ v = g) ∨ ∃ b m c, g = .slice (some ⟨b, 0, none⟩) m c ∧ lo + n ≤ c ∧ ((n = 0 ∧ 0 < lo ∧ ∃ a, v = .slice a 0 (c - lo)) ∨ v = .slice (some ⟨b, lo * sz, none⟩) n (c - lo)))
def PRep (σ : Sig) (gh : List Value) (u : Value) : PC → Prop
  | .o s => gh[s]? = some u ∧ ∃ r, u = .map (some r)
  | .d x => Rep σ u x
def RepA (σ : Sig) (gh : List Value) (st : List AO) (v : Value) : AV → Prop
  | .v x => RepV σ v x
  | .ptr s off => ∃ b, gh[s]? = some (.pointer (some ⟨b, 0, none⟩)) ∧ v = .pointer (some ⟨b, off, none⟩)
  | .h s k lo n => ∃ g o, gh[s]? = some g ∧ st[s]? = some o ∧ ∀ k' e sz xs, o = .row k' e sz xs → k ≤ k' ∧ (k = k' → HRep g sz xs.length lo n v)
  | .ep s k i off => ∃ g o, gh[s]? = some g ∧ st[s]? = some o ∧ ∀ k' e sz xs, o = .row k' e sz xs → k ≤ k' ∧ (k = k' → i < xs.length ∧ ∃ b m c, g = .slice (some ⟨b, 0, none⟩) m c ∧ v = .pointer (some ⟨b, i * sz + off, none⟩))
  | .omap s => gh[s]? = some v ∧ ∃ r, v = .map (some r)
  | .tup vs => ∃ us : List Value, v = .tuple us.toArray ∧ RepVs σ us vs
  | .clo f caps => ∃ us : List Value, v = .func (.func f) #[] us.toArray ∧ us.length = caps.length ∧ ∀ (i : Nat) u s, us[i]? = some u → caps[i]? = some s → gh[s]? = some u ∧ ∃ b, u = .pointer (some ⟨b, 0, none⟩)
  | .bs s n => ∃ b c, gh[s]? = some (.pointer (some ⟨b, 0, none⟩)) ∧ v = .slice (some ⟨b, 0, none⟩) n c
  | .pkg cs => ∃ us : List Value, v = .agg us.toArray ∧ us.length = cs.length ∧ ∀ (i : Nat) u c, us[i]? = some u → cs[i]? = some c → PRep σ gh u c
  | .junk => True
def blkOf : Value → Option Nat
  | .pointer (some a) => some a.block
  | .slice (some a) _ _ => some a.block
  | .map (some r) => some r
  | _ => none
def Uns (σ : Sig) (b : Nat) : Prop := (∀ o, σ.cell b o = none) ∧ σ.obj b = none
def ObjOk (σ : Sig) (gh : List Value) (st : List AO) (B : Nat) (w : World) (g : Value) : AO → Prop
  | .box bT cells => ∃ (b : Nat) (vals : Array Value), g = .pointer (some ⟨b, 0, none⟩) ∧ B ≤ b ∧ w.heap[b]? = some (.cells vals bT (0, 0)) ∧ vals.size = cells.length ∧
      (∀ (i : Nat) v c, vals[i]? = some v → cells[i]? = some c → RepA σ gh st v c) ∧ Uns σ b ∧ ∀ v ∈ vals, v.oneCell' = true
  | .row _ e sz xs => ∃ vals, w.ownsRow B e sz g xs.length vals ∧ (∀ (i : Nat) x, xs[i]? = some x → x.length = sz) ∧
      (∀ (i j : Nat) x d, xs[i]? = some x → x[j]? = some d → ∃ v, vals[i * sz + j]? = some v ∧ Rep σ v d) ∧ (∀ b, blkOf g = some b → Uns σ b) ∧ ∀ v ∈ vals, v.oneCell' = true
  | .mp es => ∃ (r : Nat) (entries : Array MapEntry) (clock : Nat), g = .map (some r) ∧ B ≤ r ∧ w.heap[r]? = some (.map entries clock) ∧ entries.size = es.length ∧
      (∀ (i : Nat) k d, es[i]? = some (k, d) → ∃ me : MapEntry, entries[i]? = some me ∧ me.key = k ∧ RepA σ gh st me.val d) ∧ Uns σ r ∧ clock = entries.size ∧ ∀ (i : Nat) (me : MapEntry), entries[i]? = some me → me.born = i ∧ me.val.oneCell' = true
  | .brow e ns => ∃ (b : Nat) (vals : Array Value) (fz : Nat × Nat), g = .pointer (some ⟨b, 0, none⟩) ∧ B ≤ b ∧ w.heap[b]? = some (.cells vals e fz) ∧ vals.size ≤ fz.1 ∧ ns.length ≤ vals.size ∧
      (∀ (i : Nat) n, ns[i]? = some n → vals[i]? = some (.int .u8 n)) ∧ Uns σ b
  | .gone => True
structure Sealed (σ : Sig) (w : World) : Prop where
  cell : ∀ b o v, σ.cell b o = some v → w.cell? ⟨b, o, none⟩ = some v ∧ v.oneCell' = true
  obj : ∀ r o, σ.obj r = some o → w.heap[r]? = some o
structure BelowD (B : Nat) (w w' : World) : Prop extends Below B w w' where
  dr : w.drawn ≤ w'.drawn
theorem BelowD.refl (B : Nat) (w : World) : BelowD B w w := ⟨Below.refl B w, Nat.le_refl _⟩
structure Base (w0 : World) (σ0 σ : Sig) (gh : List Value) (st : List AO) (w : World) : Prop where
  below : BelowD w0.heap.size w0 w
  ext : ∀ b, b < w0.heap.size → σ.cell b = σ0.cell b ∧ σ.obj b = σ0.obj b
  sl : Sealed σ w
  len : gh.length = st.length
  sep : ∀ (s s' b : Nat), s ≠ s' → gh[s]?.bind blkOf = some b → gh[s']?.bind blkOf ≠ some b
  lt : ∀ (s : Nat) g b, gh[s]? = some g → blkOf g = some b → b < w.heap.size
  obj : ∀ (s : Nat) o g, st[s]? = some o → gh[s]? = some g → ObjOk σ gh st w0.heap.size w g o
structure Fut (w0 : World) (σ0 σ : Sig) (gh : List Value) (st : List AO) (σ' : Sig) (gh' : List Value) (st' : List AO) (w' : World) : Prop where
  base : Base w0 σ0 σ' gh' st' w'
  keep : ∀ v a, RepA σ gh st v a → RepA σ' gh' st' v a
def upd (E : Nat → AV) (t : Nat) (v : AV) : Nat → AV := fun s => if s = t then v else E s
theorem upd_same (E : Nat → AV) (t : Nat) (v : AV) : upd E t v t = v := by simp [upd]
theorem upd_other (E : Nat → AV) {t s : Nat} (v : AV) (h : s ≠ t) : upd E t v s = E s := by simp [upd, h]
def cD : Value → D
  | .slice none 0 0 => .nils
  | v => .sc v
def cAV : Value → AV
  | .agg cs => .agg (cs.toList.map cD)
  | v => .d (cD v)
def cOk : Value → Bool
  | .agg cs => cs.toList.all fun c => match c with | .slice none 0 0 => true | v => scal v
  | .slice none 0 0 => true
  | v => scal v
def evalE (env : Nat → AV) : Operand → AV
  | .tmp t => env t
  | .const v => if cOk v then cAV v else .junk
  | .func f => .sc (.func (.func f) #[] #[])
  | .global _ => .junk
theorem rep_cD {σ : Sig} {v : Value} (h : (match v with | .slice none 0 0 => true | v => scal v) = true) : Rep σ v (cD v) := by
  unfold cD
  split at h
  · exact .nils
  · exact .sc h
theorem repV_cAV {σ : Sig} {gh st} {v : Value} (h : cOk v = true) : RepA σ gh st v (cAV v) := by
  cases v with
  | agg cs =>
    refine ⟨cs.toList, by simp, by simp, fun i u d hu hd => ?_⟩
    simp only [List.getElem?_map, Option.map_eq_some_iff] at hd
    obtain ⟨u', hu', rfl⟩ := hd
    rw [hu] at hu'
    cases hu'
    exact rep_cD (List.all_eq_true.1 h u (List.mem_of_getElem? hu))
  | slice a n c =>
    rcases a with _ | a
    · cases n with
      | zero => cases c with
        | zero => exact Rep.nils
        | succ c => simp [cOk, scal] at h
      | succ n => simp [cOk, scal] at h
    · simp [cOk, scal] at h
  | _ => exact Rep.sc h
end Go.Proofs.Nw.K
end
section
/- K2: what one operation does: rules over the abstract state. -/
open Go Go.RowKit
namespace Go.Proofs.Nw.K
theorem RepL.get {σ : Sig} {vs ds} (h : RepL σ vs ds) {i : Nat} {d : D} (hd : ds[i]? = some d) : ∃ v, vs[i]? = some v ∧ Rep σ v d := by
  have hi : i < vs.length := by rw [h.1]; exact (List.getElem?_eq_some_iff.1 hd).1
  exact ⟨vs[i], by simp [hi], h.2 i _ d (by simp [hi]) hd⟩
theorem RepA_sc {σ : Sig} {gh st} {u v : Value} (h : RepA σ gh st u (.sc v)) : u = v := by
  have h : Rep σ u (.sc v) := h
  cases h with
  | sc _ => rfl
theorem RepA_of_sc {σ : Sig} {gh st} {v : Value} (h : scal v = true) : RepA σ gh st v (.sc v) := Rep.sc h
def Out (P : Program) (w0 : World) (σ0 σ : Sig) (gh : List Value) (st : List AO) (v : AV) (st' : List AO) : Result Next → Prop
  | .ok (.value u) w' => ∃ σ' gh', Fut w0 σ0 σ gh st σ' gh' st' w' ∧ RepA σ' gh' st' u v
  | .ok .skip w' => v = .junk ∧ ∃ σ' gh', Fut w0 σ0 σ gh st σ' gh' st' w'
  | .ok (.enter f args) w' => Calls P f args w' fun e w'' => ∃ u, e = .returned u ∧ ∃ σ' gh', Fut w0 σ0 σ gh st σ' gh' st' w'' ∧ RepA σ' gh' st' u v
  | _ => False
def OpS (P : Program) (op : Op) (E : Operand → AV) (st : List AO) (v : AV) (st' : List AO) : Prop :=
  ∀ (o : Oper), o.op = op → ∀ w0 σ0 σ gh ρ w, Base w0 σ0 σ gh st w → (∀ x ∈ op.operands, RepA σ gh st (ρ x) (E x)) → Out P w0 σ0 σ gh st v st' ((execOp ρ o).run P w)
theorem Fut.refl {w0 : World} {σ0 σ gh st w} (h : Base w0 σ0 σ gh st w) : Fut w0 σ0 σ gh st σ gh st w := ⟨h, fun _ _ h => h⟩
theorem Fut.trans {w0 : World} {σ0 σ gh st σ1 gh1 st1 w1 σ2 gh2 st2 w2} (h : Fut w0 σ0 σ gh st σ1 gh1 st1 w1) (k : Fut w0 σ0 σ1 gh1 st1 σ2 gh2 st2 w2) : Fut w0 σ0 σ gh st σ2 gh2 st2 w2 :=
  ⟨k.base, fun v a h' => k.keep v a (h.keep v a h')⟩
section
variable {P : Program} {E : Operand → AV} {st : List AO}
theorem op_pure {op : Op} {v : AV} (h : ∀ (o : Oper), o.op = op → ∀ w0 σ0 σ gh ρ w, Base w0 σ0 σ gh st w → (∀ x ∈ op.operands, RepA σ gh st (ρ x) (E x)) →
    ∃ u, (execOp ρ o).run P w = .ok (.value u) w ∧ RepA σ gh st u v) : OpS P op E st v st := by
  intro o ho w0 σ0 σ gh ρ w hb hr
  obtain ⟨u, h1, h2⟩ := h o ho w0 σ0 σ gh ρ w hb hr
  rw [h1]
  exact ⟨σ, gh, .refl hb, h2⟩
theorem op_move (x : Operand) : OpS P (.move x) E st (E x) st :=
  op_pure fun o ho w0 σ0 σ gh ρ w hb hr => ⟨ρ x, by simp [execOp, ho], hr x (by simp [Op.operands])⟩
theorem op_assign (x : Operand) : OpS P (.assign x) E st (E x) st :=
  op_pure fun o ho w0 σ0 σ gh ρ w hb hr => ⟨ρ x, by simp [execOp, ho], hr x (by simp [Op.operands])⟩
theorem op_pick (c x y : Operand) (b : Bool) (hc : E c = .bool b) : OpS P (.pick c x y) E st (if b then E x else E y) st :=
  op_pure fun o ho w0 σ0 σ gh ρ w hb hr => by
    have h := hr c (by simp [Op.operands])
    rw [hc] at h
    have h := RepA_sc h
    cases b
    · exact ⟨ρ y, by simp [execOp, ho, h, asBool], hr y (by simp [Op.operands])⟩
    · exact ⟨ρ x, by simp [execOp, ho, h, asBool], hr x (by simp [Op.operands])⟩
theorem op_bin (op : BinOp) (t ty : TypeId) (x y : Operand) (a b c : Value) (hx : E x = .sc a) (hy : E y = .sc b)
    (hr : ∀ w, (binOp op t a b).run P w = .ok c w) (hg : eqGuard op t x y a b = pure ()) (hc : scal c = true) : OpS P (.binOp op t x y ty) E st (.sc c) st :=
  op_pure fun o ho w0 σ0 σ gh ρ w hb hρ => by
    have h1 := hρ x (by simp [Op.operands])
    have h2 := hρ y (by simp [Op.operands])
    rw [hx] at h1
    rw [hy] at h2
    exact ⟨c, by simp [execOp, ho, RepA_sc h1, RepA_sc h2, hg, hr], RepA_of_sc hc⟩
section
variable (t ty : TypeId) (x y : Operand) (k : IntKind) (a b : Int)
theorem op_add (hx : E x = .sc (.int k a)) (hy : E y = .sc (.int k b)) : OpS P (.binOp .add t x y ty) E st (.sc (.int k (k.wrap (a + b)))) st :=
  op_bin _ _ _ _ _ _ _ _ hx hy (fun w => by simp [binOp_add, Op.intArith]) (by simp [eqGuard_at_int]) rfl
theorem op_sub (hx : E x = .sc (.int k a)) (hy : E y = .sc (.int k b)) : OpS P (.binOp .sub t x y ty) E st (.sc (.int k (k.wrap (a - b)))) st :=
  op_bin _ _ _ _ _ _ _ _ hx hy (fun w => by simp [binOp_sub, Op.intArith]) (by simp [eqGuard_at_int]) rfl
theorem op_mul (hx : E x = .sc (.int k a)) (hy : E y = .sc (.int k b)) : OpS P (.binOp .mul t x y ty) E st (.sc (.int k (k.wrap (a * b)))) st :=
  op_bin _ _ _ _ _ _ _ _ hx hy (fun w => by simp [binOp_mul, Op.intArith]) (by simp [eqGuard_at_int]) rfl
theorem op_eql (hx : E x = .sc (.int k a)) (hy : E y = .sc (.int k b)) : OpS P (.binOp .eql t x y ty) E st (.bool (a == b)) st :=
  op_bin _ _ _ _ _ _ _ _ hx hy (fun w => by simp [binOp_eql]) (by simp [eqGuard_at_int]) rfl
theorem op_neq (hx : E x = .sc (.int k a)) (hy : E y = .sc (.int k b)) : OpS P (.binOp .neq t x y ty) E st (.bool (a != b)) st :=
  op_bin _ _ _ _ _ _ _ _ hx hy (fun w => by simp [binOp_neq]) (by simp [eqGuard_at_int]) rfl
theorem op_lss (hx : E x = .sc (.int k a)) (hy : E y = .sc (.int k b)) : OpS P (.binOp .lss t x y ty) E st (.bool (decide (a < b))) st :=
  op_bin _ _ _ _ _ _ _ _ hx hy (fun w => by simp [binOp_lss]) (by simp [eqGuard_at_int]) rfl
theorem op_leq (hx : E x = .sc (.int k a)) (hy : E y = .sc (.int k b)) : OpS P (.binOp .leq t x y ty) E st (.bool (decide (a ≤ b))) st :=
  op_bin _ _ _ _ _ _ _ _ hx hy (fun w => by simp [binOp_leq]) (by simp [eqGuard_at_int]) rfl
theorem op_gtr (hx : E x = .sc (.int k a)) (hy : E y = .sc (.int k b)) : OpS P (.binOp .gtr t x y ty) E st (.bool (decide (a > b))) st :=
  op_bin _ _ _ _ _ _ _ _ hx hy (fun w => by simp [binOp_gtr]) (by simp [eqGuard_at_int]) rfl
theorem op_geq (hx : E x = .sc (.int k a)) (hy : E y = .sc (.int k b)) : OpS P (.binOp .geq t x y ty) E st (.bool (decide (a ≥ b))) st :=
  op_bin _ _ _ _ _ _ _ _ hx hy (fun w => by simp [binOp_geq]) (by simp [eqGuard_at_int]) rfl
end
theorem wrap_i64_id (n : Int) (h1 : -9223372036854775808 ≤ n) (h2 : n ≤ 9223372036854775807) : IntKind.i64.wrap n = n := by
  simp only [IntKind.wrap, IntKind.bits, IntKind.signed]
  simp
  split <;> omega
section
variable (t ty : TypeId) (x y : Operand) (a b : Int)
end
section
variable (t ty : TypeId) (x y : Operand) (a b : ByteArray)
theorem op_seql (hx : E x = .str a) (hy : E y = .str b) : OpS P (.binOp .eql t x y ty) E st (.bool (a.toList == b.toList)) st :=
  op_bin _ _ _ _ _ _ _ _ hx hy (fun w => by simp [binOp, Op.stringOp]) (by simp [eqGuard_at_string]) rfl
theorem op_sneq (hx : E x = .str a) (hy : E y = .str b) : OpS P (.binOp .neq t x y ty) E st (.bool (!(a.toList == b.toList))) st :=
  op_bin _ _ _ _ _ _ _ _ hx hy (fun w => by simp [binOp, Op.stringOp]) (by simp [eqGuard_at_string]) rfl
theorem op_slss (hx : E x = .str a) (hy : E y = .str b) : OpS P (.binOp .lss t x y ty) E st (.bool (Op.bytesLess a.toList b.toList)) st :=
  op_bin _ _ _ _ _ _ _ _ hx hy (fun w => by simp [binOp, Op.stringOp]) (by simp [eqGuard_at_string]) rfl
theorem op_sleq (hx : E x = .str a) (hy : E y = .str b) : OpS P (.binOp .leq t x y ty) E st (.bool (Op.bytesLess a.toList b.toList || a.toList == b.toList)) st :=
  op_bin _ _ _ _ _ _ _ _ hx hy (fun w => by simp [binOp, Op.stringOp]) (by simp [eqGuard_at_string]) rfl
theorem op_sgtr (hx : E x = .str a) (hy : E y = .str b) : OpS P (.binOp .gtr t x y ty) E st (.bool (!(Op.bytesLess a.toList b.toList || a.toList == b.toList))) st :=
  op_bin _ _ _ _ _ _ _ _ hx hy (fun w => by simp [binOp, Op.stringOp]) (by simp [eqGuard_at_string]) rfl
theorem op_sadd (hx : E x = .str a) (hy : E y = .str b) (h : a.size + b.size ≤ 9223372036854775807) : OpS P (.binOp .add t x y ty) E st (.str (a ++ b)) st :=
  op_bin _ _ _ _ _ _ _ _ hx hy (fun w => by
    have : ¬ (9223372036854775807 < (a.size : Int) + b.size) := by omega
    simp [binOp, Op.stringOp, this]) (by rfl) rfl
end
section
variable (t ty : TypeId) (x y : Operand) (a b : Bool)
theorem op_beql (ht : P.underlying t = some .bool) (hx : E x = .bool a) (hy : E y = .bool b) : OpS P (.binOp .eql t x y ty) E st (.bool (a == b)) st :=
  op_bin _ _ _ _ _ _ _ _ hx hy (fun w => run_eql_bool w t a b ht) (by simp [eqGuard_at_bool]) rfl
end
theorem op_not (t : TypeId) (x : Operand) (b : Bool) (hx : E x = .bool b) : OpS P (.unOp .not t x) E st (.bool (!b)) st :=
  op_pure fun o ho w0 σ0 σ gh ρ w hb hρ => by
    have h1 := hρ x (by simp [Op.operands])
    rw [hx] at h1
    exact ⟨_, by simp [execOp, ho, RepA_sc h1, Op.unary], RepA_of_sc rfl⟩
theorem op_neg (t : TypeId) (x : Operand) (k : IntKind) (b : Int) (hx : E x = .sc (.int k b)) : OpS P (.unOp .neg t x) E st (.sc (.int k (k.wrap (0 - b)))) st :=
  op_pure fun o ho w0 σ0 σ gh ρ w hb hρ => by
    have h1 := hρ x (by simp [Op.operands])
    rw [hx] at h1
    exact ⟨_, by simp [execOp, ho, RepA_sc h1, Op.unary, Op.intArith], RepA_of_sc rfl⟩
end
end Go.Proofs.Nw.K
end
section
/- K3: the own things: how the abstract state is kept by new blocks and by stores. -/
open Go Go.RowKit
namespace Go.Proofs.Nw.K
universe u
theorem get_app {α : Type u} {l : List α} {s : Nat} {a : α} (h : l[s]? = some a) (x : List α) : (l ++ x)[s]? = some a := by
  rw [List.getElem?_append_left (List.getElem?_eq_some_iff.1 h).1]; exact h
theorem PRep.map {σ σ' : Sig} {gh gh' : List Value} {u : Value} {c : PC} (h : PRep σ gh u c) (h1 : ∀ s, c = .o s → gh[s]? = some u → (∃ r, u = .map (some r)) → gh'[s]? = some u) (h2 : σ.le σ') : PRep σ' gh' u c := by
  cases c with
  | o s => exact ⟨h1 s rfl h.1 h.2, h.2⟩
  | d x => exact Rep.mono h h2
theorem RepA.push {σ : Sig} {gh st} {v : Value} {a : AV} (h : RepA σ gh st v a) (g : List Value) (o : List AO) : RepA σ (gh ++ g) (st ++ o) v a := by
  cases a with
  | v x => exact h
  | ptr s off => obtain ⟨b, h1, h2⟩ := h; exact ⟨b, get_app h1 _, h2⟩
  | h s k lo n => obtain ⟨g', o', h1, h2, h3⟩ := h; exact ⟨g', o', get_app h1 _, get_app h2 _, h3⟩
  | ep s k i off => obtain ⟨g', o', h1, h2, h3⟩ := h; exact ⟨g', o', get_app h1 _, get_app h2 _, h3⟩
  | omap s => exact ⟨get_app h.1 _, h.2⟩
  | tup vs => exact h
  | clo f caps => obtain ⟨us, h1, h2, h3⟩ := h; exact ⟨us, h1, h2, fun i u s hu hs => ⟨get_app (h3 i u s hu hs).1 _, (h3 i u s hu hs).2⟩⟩
  | bs s n => obtain ⟨b, c, h1, h2⟩ := h; exact ⟨b, c, get_app h1 _, h2⟩
  | pkg cs => obtain ⟨us, h1, h2, h3⟩ := h; exact ⟨us, h1, h2, fun i u c hu hc => (h3 i u c hu hc).map (fun s _ e _ => get_app e _) ⟨fun _ _ _ h => h, fun _ _ h => h⟩⟩
  | junk => trivial
theorem RepA.sig {σ σ' : Sig} {gh st} {v : Value} {a : AV} (h : RepA σ gh st v a) (hl : σ.le σ') : RepA σ' gh st v a := by
  cases a with
  | v x => exact RepV.mono h hl
  | tup vs => obtain ⟨us, h1, h2⟩ := h; exact ⟨us, h1, h2.mono hl⟩
  | pkg cs => obtain ⟨us, h1, h2, h3⟩ := h; exact ⟨us, h1, h2, fun i u c hu hc => (h3 i u c hu hc).map (fun s _ e _ => e) hl⟩
  | _ => exact h
theorem Sealed.grown {σ : Sig} {w w' : World} (h : Sealed σ w) {row : Option Nat} (hg : w.grownBy w' row) (hu : ∀ b, row = some b → Uns σ b) : Sealed σ w' := by
  have key : ∀ b, b < w.heap.size → (some b ≠ row) → w'.heap[b]? = w.heap[b]? := fun b hb hn => hg.block b hb hn
  refine ⟨fun b o v hv => ?_, fun r o ho => ?_⟩
  · have h1 := h.cell b o v hv
    have hlt := World.block_lt_of_cell? w _ h1.1
    have hne : some b ≠ row := fun e => by have := (hu b e.symm).1 o; rw [this] at hv; cases hv
    exact ⟨(World.cell?_of_block (w := w) (key b hlt hne)).trans h1.1, h1.2⟩
  · have h1 := h.obj r o ho
    have hlt : r < w.heap.size := (Array.getElem?_eq_some_iff.1 h1).1
    have hne : some r ≠ row := fun e => by have := (hu r e.symm).2; rw [this] at ho; cases ho
    exact (key r hlt hne).trans h1
theorem ObjOk.grown {σ : Sig} {gh st gh' st'} {B : Nat} {w w' : World} {g : Value} {o : AO} (h : ObjOk σ gh st B w g o) {row : Option Nat} (hg : w.grownBy w' row)
    (hne : ∀ b, blkOf g = some b → some b ≠ row) (keep : ∀ v a, RepA σ gh st v a → RepA σ gh' st' v a) : ObjOk σ gh' st' B w' g o := by
  cases o with
  | box bT cells =>
    obtain ⟨b, vals, h1, h2, h3, h4, h5, h6, h7⟩ := h
    refine ⟨b, vals, h1, h2, ?_, h4, fun i v c a b => keep _ _ (h5 i v c a b), h6, h7⟩
    rw [hg.block b (Array.getElem?_eq_some_iff.1 h3).1 (hne b (by simp [h1, blkOf]))]; exact h3
  | row k e sz xs =>
    obtain ⟨vals, h1, h2, h3, h4, h5⟩ := h
    refine ⟨vals, h1.kept hg ?_, h2, h3, h4, h5⟩
    cases hv : g.ownBlock with
    | none => exact .inl rfl
    | some b =>
      refine .inr (hne b ?_)
      cases g <;> simp [Value.ownBlock] at hv
      rename_i a n c
      cases a <;> simp [Value.ownBlock] at hv
      simp [blkOf, hv]
  | mp es =>
    obtain ⟨r, entries, clock, h1, h2, h3, h4, h5, h6⟩ := h
    refine ⟨r, entries, clock, h1, h2, ?_, h4, fun i k d a => let ⟨me, c1, c2, c3⟩ := h5 i k d a; ⟨me, c1, c2, keep _ _ c3⟩, h6⟩
    rw [hg.block r (Array.getElem?_eq_some_iff.1 h3).1 (hne r (by simp [h1, blkOf]))]; exact h3
  | brow e ns =>
    obtain ⟨b, vals, fz, h1, h2, h3, h4, h5, h6, h7⟩ := h
    refine ⟨b, vals, fz, h1, h2, ?_, h4, h5, h6, h7⟩
    rw [hg.block b (Array.getElem?_eq_some_iff.1 h3).1 (hne b (by simp [h1, blkOf]))]; exact h3
  | gone => trivial
theorem ObjOk.blk {σ : Sig} {gh st} {B : Nat} {w : World} {g : Value} {o : AO} (h : ObjOk σ gh st B w g o) (hn : o ≠ .gone) {b : Nat} (hb : blkOf g = some b) : B ≤ b ∧ Uns σ b ∧ b < w.heap.size := by
  cases o with
  | box bT cells =>
    obtain ⟨b', vals, h1, h2, h3, h4, h5, h6, h7⟩ := h
    subst h1
    simp [blkOf] at hb
    subst hb
    exact ⟨h2, h6, (Array.getElem?_eq_some_iff.1 h3).1⟩
  | row k e sz xs =>
    obtain ⟨vals, h1, h2, h3, h4, h5⟩ := h
    have hv : g.ownBlock = some b := by
      rcases h1.2 with ⟨hg, _⟩ | ⟨g', cap, cur, hg, _⟩
      · subst hg; simp [blkOf] at hb
      · subst hg; simpa [blkOf, Value.ownBlock] using hb
    have := h1.lt b hv
    exact ⟨this.1, h4 b hb, this.2⟩
  | mp es =>
    obtain ⟨r, entries, clock, h1, h2, h3, h4, h5, h6⟩ := h
    subst h1
    simp [blkOf] at hb
    subst hb
    exact ⟨h2, h6.1, (Array.getElem?_eq_some_iff.1 h3).1⟩
  | brow e ns =>
    obtain ⟨b', vals, fz, h1, h2, h3, h4, h5, h6, h7⟩ := h
    subst h1
    simp [blkOf] at hb
    subst hb
    exact ⟨h2, h7, (Array.getElem?_eq_some_iff.1 h3).1⟩
  | gone => exact absurd rfl hn
theorem Base.grown {w0 : World} {σ0 σ gh st w w'} (hb : Base w0 σ0 σ gh st w) (hg : w.grownBy w' none) (hd : w.drawn ≤ w'.drawn := by first | exact Nat.le_refl _ | exact Nat.le_succ _ | (simp; done) | omega) : Base w0 σ0 σ gh st w' where
  below := ⟨hb.below.toBelow.grown hg hb.below.size (fun _ h => by cases h), Nat.le_trans hb.below.dr hd⟩
  ext := hb.ext
  sl := hb.sl.grown hg (fun _ h => by cases h)
  len := hb.len
  sep := hb.sep
  lt := fun s g b h1 h2 => Nat.lt_of_lt_of_le (hb.lt s g b h1 h2) hg.size
  obj := fun s o g h1 h2 => (hb.obj s o g h1 h2).grown hg (fun _ _ h => by cases h) (fun _ _ h => h)
theorem Sealed.fresh {σ : Sig} {w : World} (h : Sealed σ w) {b : Nat} (hb : w.heap.size ≤ b) : Uns σ b := by
  refine ⟨fun o => ?_, ?_⟩
  · cases hc : σ.cell b o with
    | none => rfl
    | some v => have := World.block_lt_of_cell? w _ (h.cell b o v hc).1; simp at this; omega
  · cases hc : σ.obj b with
    | none => rfl
    | some v => have := (Array.getElem?_eq_some_iff.1 (h.obj b v hc)).1; omega
theorem Base.push {w0 : World} {σ0 σ gh st w w'} (hb : Base w0 σ0 σ gh st w) (hg : w.grownBy w' none) (g : Value) (o : AO)
    (hblk : ∀ b, blkOf g = some b → w.heap.size ≤ b ∧ b < w'.heap.size) (ho : ObjOk σ gh st w0.heap.size w' g o) (hd : w.drawn ≤ w'.drawn := by first | exact Nat.le_refl _ | exact Nat.le_succ _ | (simp; done) | omega) :
    Fut w0 σ0 σ gh st σ (gh ++ [g]) (st ++ [o]) w' := by
  have b' := hb.grown hg hd
  refine ⟨⟨b'.below, b'.ext, b'.sl, by simp [hb.len], ?_, ?_, ?_⟩, fun v a h => h.push _ _⟩
  · intro s s' b hne h1 h2
    have cls : ∀ s, (gh ++ [g])[s]?.bind blkOf = some b → (gh[s]?.bind blkOf = some b ∧ b < w.heap.size) ∨ (s = gh.length ∧ blkOf g = some b) := by
      intro s h
      rw [List.getElem?_append] at h
      split at h
      · refine .inl ⟨h, ?_⟩
        cases hs : gh[s]? with
        | none => simp [hs] at h
        | some g' => rw [hs] at h; exact hb.lt s g' b hs h
      · rename_i hs
        by_cases e : s = gh.length
        · subst e; simp at h; exact .inr ⟨rfl, h⟩
        · have : s - gh.length ≠ 0 := by omega
          simp [List.getElem?_cons, this] at h
    rcases cls s h1 with ⟨a, c⟩ | ⟨a, c⟩ <;> rcases cls s' h2 with ⟨a', c'⟩ | ⟨a', c'⟩
    · exact hb.sep s s' b hne a a'
    · have := (hblk b c').1; omega
    · have := (hblk b c).1; omega
    · omega
  · intro s g' b h1 h2
    rw [List.getElem?_append] at h1
    split at h1
    · exact b'.lt s g' b h1 h2
    · rename_i hs
      by_cases e : s - gh.length = 0
      · simp [e] at h1; subst h1; exact (hblk b h2).2
      · simp [List.getElem?_cons, e] at h1
  · intro s o' g' h1 h2
    have hk : ∀ v a, RepA σ gh st v a → RepA σ (gh ++ [g]) (st ++ [o]) v a := fun v a h => h.push _ _
    rw [List.getElem?_append] at h1 h2
    have hl := hb.len
    split at h1
    · rename_i hs
      rw [if_pos (by omega)] at h2
      exact (b'.obj s o' g' h1 h2).grown (row := none) ⟨rfl, rfl, rfl, Nat.le_refl _, fun _ _ _ => rfl⟩ (fun _ _ h => by cases h) hk
    · rename_i hs
      rw [if_neg (by omega)] at h2
      by_cases e : s - gh.length = 0
      · have e' : s - st.length = 0 := by omega
        simp [e] at h2; simp [e'] at h1
        subst h1 h2
        exact ho.grown (row := none) ⟨rfl, rfl, rfl, Nat.le_refl _, fun _ _ _ => rfl⟩ (fun _ _ h => by cases h) hk
      · simp [List.getElem?_cons, e] at h2
theorem Base.turn {w0 : World} {σ0 σ gh st w w'} (hb : Base w0 σ0 σ gh st w) {s : Nat} {o : AO} {g : Value} (hs : st[s]? = some o) (hgs : gh[s]? = some g) (hn : o ≠ .gone)
    (hg : w.grownBy w' (blkOf g)) (g' : Value) (o' : AO)
    (hblk : ∀ b, blkOf g' = some b → blkOf g = some b ∨ (w.heap.size ≤ b ∧ b < w'.heap.size))
    (ho : ObjOk σ (gh.set s g') (st.set s o') w0.heap.size w' g' o')
    (keep : ∀ v a, RepA σ gh st v a → RepA σ (gh.set s g') (st.set s o') v a)
    (hd : w.drawn ≤ w'.drawn := by first | exact Nat.le_refl _ | exact Nat.le_succ _ | (simp; done) | omega) :
    Fut w0 σ0 σ gh st σ (gh.set s g') (st.set s o') w' := by
  have hob := hb.obj s o g hs hgs
  have hslt : s < st.length := (List.getElem?_eq_some_iff.1 hs).1
  have hbelow : BelowD w0.heap.size w0 w' := ⟨hb.below.toBelow.grown hg hb.below.size (fun b e => (hob.blk hn e).1), Nat.le_trans hb.below.dr hd⟩
  have look : ∀ t (x : Value), (gh.set s g')[t]? = some x → (t = s ∧ x = g') ∨ (t ≠ s ∧ gh[t]? = some x) := by
    intro t x h
    rw [List.getElem?_set] at h
    split at h
    · rename_i e; subst e; simp [hb.len, hslt] at h; exact .inl ⟨rfl, h.symm⟩
    · rename_i e; exact .inr ⟨fun e' => e e'.symm, h⟩
  refine ⟨⟨hbelow, hb.ext, hb.sl.grown hg (fun b e => (hob.blk hn e).2.1), by simp [hb.len], ?_, ?_, ?_⟩, keep⟩
  · intro t t' b hne h1 h2
    cases e1 : (gh.set s g')[t]? with
    | none => simp [e1] at h1
    | some x =>
      cases e2 : (gh.set s g')[t']? with
      | none => simp [e2] at h2
      | some y =>
        rw [e1] at h1; rw [e2] at h2
        have h1 : blkOf x = some b := h1
        have h2 : blkOf y = some b := h2
        rcases look t x e1 with ⟨rfl, rfl⟩ | ⟨n1, a1⟩ <;> rcases look t' y e2 with ⟨rfl, rfl⟩ | ⟨n2, a2⟩
        · exact hne rfl
        · rcases hblk b h1 with h | h
          · exact hb.sep t t' b hne (by rw [hgs]; exact h) (by rw [a2]; exact h2)
          · have := hb.lt t' y b a2 h2; omega
        · rcases hblk b h2 with h | h
          · exact hb.sep t t' b hne (by rw [a1]; exact h1) (by rw [hgs]; exact h)
          · have := hb.lt t x b a1 h1; omega
        · exact hb.sep t t' b hne (by rw [a1]; exact h1) (by rw [a2]; exact h2)
  · intro t x b h1 h2
    rcases look t x h1 with ⟨rfl, rfl⟩ | ⟨n1, a1⟩
    · rcases hblk b h2 with h | h
      · exact Nat.lt_of_lt_of_le (hb.lt t g b hgs h) hg.size
      · exact h.2
    · exact Nat.lt_of_lt_of_le (hb.lt t x b a1 h2) hg.size
  · intro t o1 g1 h1 h2
    rcases look t g1 h2 with ⟨rfl, rfl⟩ | ⟨n1, a1⟩
    · rw [List.getElem?_set] at h1
      simp [hslt] at h1
      subst h1
      exact ho
    · rw [List.getElem?_set, if_neg (fun e => n1 e.symm)] at h1
      refine (hb.obj t o1 g1 h1 a1).grown hg (fun b e1 e2 => ?_) keep
      exact hb.sep t s b n1 (by rw [a1]; exact e1) (by rw [hgs]; exact e2.symm)
end Go.Proofs.Nw.K
end
section
/- K4: operations on memory: addresses, loads, stores, new variables, slices. -/
open Go Go.RowKit
namespace Go.Proofs.Nw.K
def fieldOff (P : Program) (s : TypeId) (f : Nat) : Option Nat :=
  match P.underlying s with
  | some (.struct fs) => match fs[f]? with
    | some fl => match P.info? fl.type with
      | some i => if i.size = 0 then none else some fl.offset
      | none => none
    | none => none
  | _ => none
def ldT (P : Program) (t : TypeId) : Option (Nat × Bool) :=
  match P.underlying t, P.info? t with
  | some (.struct _), some i => some (i.size, true)
  | some (.array _ _), some i => some (i.size, true)
  | some _, some i => some (i.size, false)
  | _, _ => none
def elT (P : Program) (t : TypeId) : Option (TypeId × Nat) :=
  match P.underlying t with
  | some (.slice e) => match P.info? e with
    | some i => some (e, i.size)
    | none => none
  | _ => none
theorem fieldOff_run {P : Program} {s : TypeId} {f off : Nat} (h : fieldOff P s f = some off) (a : Addr) (w : World) :
    (Instr.fieldAt s (.pointer (some a)) f).run P w = .ok (.pointer (some (a.add off))) w := by
  unfold fieldOff at h
  split at h
  · rename_i fs hu
    split at h
    · rename_i fl hf
      split at h
      · rename_i i hi
        split at h
        · cases h
        · rename_i hs
          cases h
          simp [Instr.fieldAt, run_underlying hu, hf, Instr.sureAddr, fieldPlace, sizeOf, typeInfo, hi, hs]
      · cases h
    · cases h
  · cases h
theorem ldT_agg {P : Program} {t : TypeId} {n : Nat} (h : ldT P t = some (n, true)) (w : World) : (isAgg t).run P w = .ok true w ∧ (sizeOf t).run P w = .ok n w := by
  unfold ldT at h
  split at h <;> first | cases h | skip
  · rename_i hu hi; exact ⟨by simp [isAgg, run_underlying hu], by simp [sizeOf, typeInfo, hi]⟩
  · rename_i hu hi; exact ⟨by simp [isAgg, run_underlying hu], by simp [sizeOf, typeInfo, hi]⟩
theorem ldT_one {P : Program} {t : TypeId} {n : Nat} (h : ldT P t = some (n, false)) (w : World) : (isAgg t).run P w = .ok false w ∧ (sizeOf t).run P w = .ok n w := by
  unfold ldT at h
  split at h <;> first | cases h | skip
  rename_i d i h1 h2 hu hi
  refine ⟨?_, by simp [sizeOf, typeInfo, hi]⟩
  cases d <;> first | exact (h1 _ rfl).elim | exact (h2 _ _ rfl).elim | simp [isAgg, run_underlying hu]
theorem elT_spec {P : Program} {t e : TypeId} {sz : Nat} (h : elT P t = some (e, sz)) : P.underlying t = some (.slice e) ∧ ∃ i, P.info? e = some i ∧ i.size = sz := by
  unfold elT at h
  split at h
  · rename_i e' hu
    split at h
    · rename_i i hi
      cases h
      exact ⟨hu, i, hi, rfl⟩
    · cases h
  · cases h
theorem add_lit (b o n : Nat) : Addr.add ⟨b, o, none⟩ n = ⟨b, o + n, none⟩ := by
  unfold Addr.add
  split
  · subst_vars; rfl
  · rfl
theorem run_loadVar_one {P : Program} {t : TypeId} {n : Nat} (h : ldT P t = some (n, false)) {w : World} {a : Addr} {v : Value} (hc : w.cell? a = some v) : (loadVar t a).run P w = .ok v w := by
  simp [loadVar, (ldT_one h w).1, load, Sem.run, hc]
theorem run_loadVar_agg {P : Program} {t : TypeId} {n : Nat} (h : ldT P t = some (n, true)) {w : World} {b o : Nat} (vs : List Value) (hl : vs.length = n)
    (hc : ∀ j v, vs[j]? = some v → w.cell? ⟨b, o + j, none⟩ = some v) : (loadVar t ⟨b, o, none⟩).run P w = .ok (.agg vs.toArray) w := by
  have := run_loadCells_list (P := P) w ⟨b, o, none⟩ vs (fun j v hv => by rw [add_lit]; exact hc j v hv)
  rw [hl] at this
  simp [loadVar, (ldT_agg h w).1, (ldT_agg h w).2, this]
section
variable {P : Program} {E : Operand → AV} {st : List AO}
theorem op_fieldAddr_ptr (s : TypeId) (x : Operand) (f i off k : Nat) (hf : fieldOff P s f = some k) (hx : E x = .ptr i off) : OpS P (.fieldAddr s x f) E st (.ptr i (off + k)) st :=
  op_pure fun o ho w0 σ0 σ gh ρ w hb hρ => by
    have h1 := hρ x (by simp [Op.operands])
    rw [hx] at h1
    obtain ⟨b, h2, h3⟩ := h1
    exact ⟨.pointer (some ⟨b, off + k, none⟩), by simp [execOp, ho, h3, fieldOff_run hf, add_lit], b, h2, rfl⟩
theorem op_fieldAddr_ep (s : TypeId) (x : Operand) (f i v j off k : Nat) (hf : fieldOff P s f = some k) (hx : E x = .ep i v j off) (o0 : AO) (hst : st[i]? = some o0) (hrow : ∃ e sz xs, o0 = .row v e sz xs) :
    OpS P (.fieldAddr s x f) E st (.ep i v j (off + k)) st :=
  op_pure fun o ho w0 σ0 σ gh ρ w hb hρ => by
    have h1 := hρ x (by simp [Op.operands])
    rw [hx] at h1
    obtain ⟨g, o', h2, h3, h4⟩ := h1
    obtain ⟨e, sz, xs, rfl⟩ := hrow
    rw [hst] at h3
    cases h3
    obtain ⟨_, h5⟩ := h4 v e sz xs rfl
    obtain ⟨hj, b, m, c, h6, h7⟩ := h5 rfl
    refine ⟨.pointer (some ⟨b, j * sz + off + k, none⟩), by simp [execOp, ho, h7, fieldOff_run hf, add_lit], g, _, h2, hst, ?_⟩
    intro k' e' sz' xs' heq
    cases heq
    exact ⟨Nat.le_refl _, fun _ => ⟨hj, b, m, c, h6, by rw [Nat.add_assoc]⟩⟩
theorem ref_cells {σ : Sig} {gh} {u : Value} {cells : List D} (h : RepA σ gh st u (.d (.ref cells))) : ∃ (b off : Nat) (val : Nat → Value), u = .pointer (some ⟨b, off, none⟩) ∧
    (∀ j, j < cells.length → σ.cell b (off + j) = some (val j)) ∧ ∀ (j : Nat) d, cells[j]? = some d → Rep σ (val j) d := by
  have h : Rep σ u (.ref cells) := h
  cases h with
  | ref val h1 h2 => exact ⟨_, _, val, rfl, h1, h2⟩
theorem op_fieldAddr_ref (s : TypeId) (x : Operand) (f k : Nat) (cells : List D) (hf : fieldOff P s f = some k) (hx : E x = .d (.ref cells)) : OpS P (.fieldAddr s x f) E st (.d (.ref (cells.drop k))) st :=
  op_pure fun o ho w0 σ0 σ gh ρ w hb hρ => by
    have h1 := hρ x (by simp [Op.operands])
    rw [hx] at h1
    obtain ⟨b, off, val, h2, h3, h4⟩ := ref_cells h1
    refine ⟨.pointer (some ⟨b, off + k, none⟩), by simp [execOp, ho, h2, fieldOff_run hf, add_lit], Rep.ref (fun j => val (k + j)) (fun j hj => ?_) (fun j d hd => ?_)⟩
    · rw [Nat.add_assoc]
      exact h3 (k + j) (by simp at hj; omega)
    · exact h4 (k + j) d (by simpa using hd)
theorem op_indexAddr (t e : TypeId) (sz : Nat) (x i : Operand) (k : IntKind) (n : Int) (xs : List (List D)) (cells : List D) (ht : elT P t = some (e, sz)) (hx : E x = .list sz xs) (hi : E i = .sc (.int k n))
    (h0 : 0 ≤ n) (hc : xs[n.toNat]? = some cells) : OpS P (.indexAddr t x i) E st (.d (.ref cells)) st :=
  op_pure fun o ho w0 σ0 σ gh ρ w hb hρ => by
    have h1 := hρ x (by simp [Op.operands])
    have h2 := hρ i (by simp [Op.operands])
    rw [hx] at h1
    rw [hi] at h2
    have h2 := RepA_sc h2
    have h1 : Rep σ (ρ x) (.list sz xs) := h1
    have hlt : n.toNat < xs.length := (List.getElem?_eq_some_iff.1 hc).1
    obtain ⟨hu, ti, hinfo, rfl⟩ := elT_spec ht
    generalize hv : ρ x = v at h1
    cases h1 with
    | nil _ => simp at hlt
    | @list b off m c _ _ val hn hp hcap hm hsz hcell hval =>
      have hnm : n < (m : Int) := by omega
      refine ⟨.pointer (some ⟨b, off + n.toNat * ti.size, none⟩), ?_, Rep.ref (fun j => val n.toNat j) (fun j hj => ?_) (fun j d hd => hval _ _ _ _ hc hd)⟩
      · simp [execOp, ho, hv, h2, Instr.indexAt, asIntOf, run_underlying hu, sizeOf, typeInfo, hinfo, h0, hnm, add_lit]
      · exact hcell n.toNat j (by omega) (by rw [hsz _ _ hc] at hj; exact hj)
theorem op_load_ref (t : TypeId) (x : Operand) (n : Nat) (cells : List D) (ht : ldT P t = some (n, true)) (hx : E x = .d (.ref cells)) (hn : n ≤ cells.length) :
    OpS P (.load t x) E st (.agg (cells.take n)) st :=
  op_pure fun o ho w0 σ0 σ gh ρ w hb hρ => by
    have h1 := hρ x (by simp [Op.operands])
    rw [hx] at h1
    obtain ⟨b, off, val, h2, h3, h4⟩ := ref_cells h1
    have hr := run_loadVar_agg (P := P) ht (w := w) (b := b) (o := off) ((List.range n).map val) (by simp) (fun j v hv => by
      simp only [List.getElem?_map, Option.map_eq_some_iff] at hv
      obtain ⟨j', hj', rfl⟩ := hv
      have hj2 := List.getElem?_eq_some_iff.1 hj'
      obtain ⟨hj3, hj4⟩ := hj2
      simp at hj3 hj4
      subst hj4
      exact (hb.sl.cell _ _ _ (h3 j (by omega))).1)
    refine ⟨_, by simp [execOp, ho, h2, Instr.loadAt, Instr.sureAddr, hr]; rfl, _, rfl, by simp; omega, fun i v d hv hd => ?_⟩
    simp only [List.getElem?_map, Option.map_eq_some_iff] at hv
    obtain ⟨j', hj', rfl⟩ := hv
    obtain ⟨hj3, hj4⟩ := List.getElem?_eq_some_iff.1 hj'
    simp at hj3 hj4
    subst hj4
    have hi : i < n := by have := (List.getElem?_eq_some_iff.1 hd).1; simp at this; omega
    rw [List.getElem?_take_of_lt hi] at hd
    exact h4 _ _ hd
theorem op_load_ref1 (t : TypeId) (x : Operand) (n : Nat) (d : D) (cells : List D) (ht : ldT P t = some (n, false)) (hx : E x = .d (.ref cells)) (hd : cells[0]? = some d) :
    OpS P (.load t x) E st (.d d) st :=
  op_pure fun o ho w0 σ0 σ gh ρ w hb hρ => by
    have h1 := hρ x (by simp [Op.operands])
    rw [hx] at h1
    obtain ⟨b, off, val, h2, h3, h4⟩ := ref_cells h1
    have hc : w.cell? ⟨b, off, none⟩ = some (val 0) := (hb.sl.cell _ _ _ (h3 0 (List.getElem?_eq_some_iff.1 hd).1)).1
    exact ⟨val 0, by simp [execOp, ho, h2, Instr.loadAt, Instr.sureAddr, run_loadVar_one ht hc], h4 0 d hd⟩
theorem ptr_cells {w0 : World} {σ0 σ gh w} (hb : Base w0 σ0 σ gh st w) {u : Value} {s off : Nat} {bT : TypeId} {cells : List AV} (h : RepA σ gh st u (.ptr s off)) (hst : st[s]? = some (.box bT cells)) :
    ∃ b vals, gh[s]? = some (.pointer (some ⟨b, 0, none⟩)) ∧ u = .pointer (some ⟨b, off, none⟩) ∧ w0.heap.size ≤ b ∧ w.heap[b]? = some (.cells vals bT (0, 0)) ∧ vals.size = cells.length ∧
      (∀ (i : Nat) v c, vals[i]? = some v → cells[i]? = some c → RepA σ gh st v c) ∧ Uns σ b ∧ ∀ v ∈ vals, v.oneCell' = true := by
  obtain ⟨b, h1, h2⟩ := h
  obtain ⟨b', vals, e, h3, h4, h5, h6, h7, h8⟩ := hb.obj s _ _ hst h1
  cases e
  exact ⟨b, vals, h1, h2, h3, h4, h5, h6, h7, h8⟩
theorem op_load_ptr1 (t : TypeId) (x : Operand) (n s off : Nat) (a : AV) {bT : TypeId} (cells : List AV) (ht : ldT P t = some (n, false)) (hx : E x = .ptr s off) (hst : st[s]? = some (.box bT cells)) (ha : cells[off]? = some a) :
    OpS P (.load t x) E st a st :=
  op_pure fun o ho w0 σ0 σ gh ρ w hb hρ => by
    have h1 := hρ x (by simp [Op.operands])
    rw [hx] at h1
    obtain ⟨b, vals, h2, h3, h4, h5, h6, h7, h8, h9⟩ := ptr_cells hb h1 hst
    have hlt : off < vals.size := by rw [h6]; exact (List.getElem?_eq_some_iff.1 ha).1
    have hc : w.cell? ⟨b, off, none⟩ = some vals[off] := by rw [cell_of_row w b off vals bT (0, 0) h5]; simp [hlt]
    exact ⟨vals[off], by simp [execOp, ho, h3, Instr.loadAt, Instr.sureAddr, run_loadVar_one ht hc], h7 off _ _ (by simp [hlt]) ha⟩
def toDs : List AV → Option (List D)
  | [] => some []
  | .v (.one d) :: r => match toDs r with | some ds => some (d :: ds) | none => none
  | _ => none
theorem toDs_get : ∀ {cs : List AV} {ds : List D}, toDs cs = some ds → cs.length = ds.length ∧ ∀ (i : Nat) d, ds[i]? = some d → cs[i]? = some (.d d)
  | [], ds, h => by cases h; exact ⟨rfl, fun i d h => by simp at h⟩
  | a :: r, ds, h => by
    unfold toDs at h
    split at h <;> try cases h
    · rename_i heq; cases heq
    · rename_i d' r' heq
      cases heq
      split at h <;> try cases h
      rename_i ds' hds
      have ih := toDs_get hds
      refine ⟨by simp [ih.1], fun i d hd => ?_⟩
      cases i with
      | zero => simp at hd; subst hd; rfl
      | succ i => simp at hd; simpa using ih.2 i d hd
theorem op_load_ptr (t : TypeId) (x : Operand) (n s off : Nat) (ds : List D) {bT : TypeId} (cells : List AV) (ht : ldT P t = some (n, true)) (hx : E x = .ptr s off) (hst : st[s]? = some (.box bT cells))
    (hds : toDs ((cells.drop off).take n) = some ds) (hn : ds.length = n) : OpS P (.load t x) E st (.agg ds) st :=
  op_pure fun o ho w0 σ0 σ gh ρ w hb hρ => by
    have h1 := hρ x (by simp [Op.operands])
    rw [hx] at h1
    obtain ⟨b, vals, h2, h3, h4, h5, h6, h7, h8, h9⟩ := ptr_cells hb h1 hst
    have hd := toDs_get hds
    have hle : off + n ≤ cells.length ∨ n = 0 := by
      have := hd.1
      rw [hn, List.length_take, List.length_drop] at this
      omega
    have hvl : ((vals.toList.drop off).take n).length = n := by simp; omega
    have hr := run_loadVar_agg (P := P) ht (w := w) (b := b) (o := off) ((vals.toList.drop off).take n) hvl (fun j v hv => by
      rw [List.getElem?_take] at hv
      split at hv
      · rw [cell_of_row w b _ vals bT (0, 0) h5]; simpa using hv
      · cases hv)
    refine ⟨.agg ((vals.toList.drop off).take n).toArray, by simp only [execOp, ho, h3, Instr.loadAt, Instr.sureAddr, Sem.run_bind, Sem.run_pure, Result.andThen_ok, hr], _, rfl, by rw [hvl, hn], fun i v d hv hdd => ?_⟩
    have h10 := hd.2 i d hdd
    have hi : i < n := by have := (List.getElem?_eq_some_iff.1 hdd).1; omega
    rw [List.getElem?_take_of_lt hi] at h10 hv
    exact h7 (off + i) v (.d d) (by simpa using hv) (by simpa using h10)
end
end Go.Proofs.Nw.K
end
section
/- K5: stores, new variables. -/
open Go Go.RowKit
namespace Go.Proofs.Nw.K
theorem RepA.set {σ : Sig} {gh st} {v : Value} {a : AV} (h : RepA σ gh st v a) {s : Nat} {o : AO} (hs : st[s]? = some o) (o' : AO)
    (hc : ∀ k e sz xs, o' = .row k e sz xs → ∃ e2 xs2, o = .row k e2 sz xs2 ∧ xs2.length = xs.length) : RepA σ gh (st.set s o') v a := by
  have hlt : s < st.length := (List.getElem?_eq_some_iff.1 hs).1
  have look : ∀ (t : Nat) o1, st[t]? = some o1 → ∃ o2, (st.set s o')[t]? = some o2 ∧ ((t ≠ s ∧ o2 = o1) ∨ (t = s ∧ o1 = o ∧ o2 = o')) := by
    intro t o1 h1
    by_cases e : t = s
    · subst e; rw [hs] at h1; cases h1; exact ⟨o', by simp [hlt], .inr ⟨rfl, rfl, rfl⟩⟩
    · exact ⟨o1, by rw [List.getElem?_set, if_neg (fun e' => e e'.symm)]; exact h1, .inl ⟨e, rfl⟩⟩
  cases a with
  | h t k lo n =>
    obtain ⟨g, o1, h1, h2, h3⟩ := h
    obtain ⟨o2, h4, h5⟩ := look t o1 h2
    refine ⟨g, o2, h1, h4, fun k' e sz xs heq => ?_⟩
    rcases h5 with ⟨_, rfl⟩ | ⟨_, rfl, rfl⟩
    · exact h3 k' e sz xs heq
    · obtain ⟨e2, xs2, h6, h7⟩ := hc _ _ _ _ heq
      rw [← h7]; exact h3 k' e2 sz xs2 h6
  | ep t k i off =>
    obtain ⟨g, o1, h1, h2, h3⟩ := h
    obtain ⟨o2, h4, h5⟩ := look t o1 h2
    refine ⟨g, o2, h1, h4, fun k' e sz xs heq => ?_⟩
    rcases h5 with ⟨_, rfl⟩ | ⟨_, rfl, rfl⟩
    · exact h3 k' e sz xs heq
    · obtain ⟨e2, xs2, h6, h7⟩ := hc _ _ _ _ heq
      rw [← h7]; exact h3 k' e2 sz xs2 h6
  | _ => exact h
universe u
theorem set_self {α : Type u} {l : List α} {s : Nat} {a : α} (h : l[s]? = some a) : l.set s a = l := by
  apply List.ext_getElem?
  intro t
  rw [List.getElem?_set]
  split
  · rename_i e; subst e
    obtain ⟨hlt, e⟩ := List.getElem?_eq_some_iff.1 h
    simp [hlt, e]
  · rfl
theorem grown_setRow (w : World) (b : Nat) (cs : Array Value) : w.grownBy (w.setRow b cs) (some b) :=
  ⟨rfl, rfl, rfl, by simp, fun k _ hk => setRow_other w b k _ (fun e => hk (by simp [e]))⟩
theorem one_cells {v : Value} (h : v.oneCell' = true) : v.cells = #[v] := by cases v <;> simp_all [Value.oneCell', Value.cells]
theorem box_store {P : Program} {w0 : World} {σ0 σ gh st w} (hb : Base w0 σ0 σ gh st w) {u : Value} {s off : Nat} {bT : TypeId} {cells : List AV} (h : RepA σ gh st u (.ptr s off)) (hst : st[s]? = some (.box bT cells))
    (vs : List Value) (as : List AV) (hl : vs.length = as.length) (ha : ∀ (i : Nat) v a, vs[i]? = some v → as[i]? = some a → RepA σ gh st v a) (h1 : ∀ v ∈ vs, v.oneCell' = true) (hle : off + as.length ≤ cells.length) :
    ∃ b w', u = .pointer (some ⟨b, off, none⟩) ∧ (storeCells ⟨b, off, none⟩ vs).run P w = .ok () w' ∧
      Fut w0 σ0 σ gh st σ gh (st.set s (.box bT (cells.take off ++ as ++ cells.drop (off + as.length)))) w' := by
  obtain ⟨b, vals, h2, h3, h4, h5, h6, h7, h8, h9⟩ := ptr_cells hb h hst
  have hr := run_storeCells_at P b off bT vs 0 vals w h5 (by omega) h1
  simp only [Nat.add_zero] at hr
  refine ⟨b, _, h3, hr, ?_⟩
  have hset := set_self h2
  generalize ho' : AO.box bT (cells.take off ++ as ++ cells.drop (off + as.length)) = o'
  have keep : ∀ v a, RepA σ gh st v a → RepA σ (gh.set s (.pointer (some ⟨b, 0, none⟩))) (st.set s o') v a := fun v a hv => by
    rw [hset]
    refine hv.set hst _ (fun k e sz xs heq => ?_)
    rw [← ho'] at heq; cases heq
  have := hb.turn (w' := w.setRow b (vals.toList.take off ++ vs ++ vals.toList.drop (off + vs.length)).toArray) hst h2 (by simp) (by simpa [blkOf] using grown_setRow w b _) (.pointer (some ⟨b, 0, none⟩)) o' (fun b' hb' => .inl (by simpa [blkOf] using hb')) ?_ keep
  · rwa [hset] at this
  · subst ho'
    refine ⟨b, _, rfl, h4, setRow_heap w b vals _ bT _ h5, ?_, ?_, h8, ?_⟩
    · simp; omega
    · intro i v c hv hc
      refine keep _ _ ?_
      simp only [List.getElem?_toArray] at hv
      rw [List.append_assoc, List.getElem?_append] at hv hc
      have l1 : (List.take off vals.toList).length = off := by simp; omega
      have l2 : (List.take off cells).length = off := by simp; omega
      rw [l1] at hv
      rw [l2] at hc
      split at hv
      · rename_i hi
        rw [if_pos hi] at hc
        rw [List.getElem?_take_of_lt hi] at hv hc
        exact h7 i v c (by simpa using hv) hc
      · rename_i hi
        rw [if_neg hi] at hc
        rw [List.getElem?_append] at hv hc
        rw [hl] at hv
        split at hv
        · rename_i hi2
          rw [if_pos hi2] at hc
          exact ha _ v c hv hc
        · rename_i hi2
          rw [if_neg hi2] at hc
          simp only [List.getElem?_drop] at hv hc
          exact h7 _ v c (by simpa using hv) hc
    · intro v hv
      simp only [List.mem_toArray, List.mem_append] at hv
      rcases hv with (hv | hv) | hv
      · exact h9 v (by simpa using List.mem_of_mem_take hv)
      · exact h1 v hv
      · exact h9 v (by simpa using List.mem_of_mem_drop hv)
def AV.single : AV → Bool
  | .v (.one _) | .ptr _ _ | .h _ _ _ _ | .ep _ _ _ _ | .omap _ | .clo _ _ => true
  | _ => false
theorem Rep.shape {σ : Sig} {v : Value} {d : D} (h : Rep σ v d) {sz : Nat} {xs : List (List D)} (hd : d = .list sz xs) : ∃ A n c, v = .slice A n c := by
  cases h with
  | nil _ => exact ⟨_, _, _, rfl⟩
  | list => exact ⟨_, _, _, rfl⟩
  | _ => cases hd
theorem Rep.one {σ : Sig} {v : Value} {d : D} (h : Rep σ v d) : v.oneCell' = true := by
  cases h with
  | sc h => cases v <;> simp_all [scal, Value.oneCell']
  | tl h => obtain ⟨_, _, _, rfl⟩ := h.shape rfl; rfl
  | full h _ => obtain ⟨_, _, _, rfl⟩ := h.shape rfl; rfl
  | any h => exact h
  | optS h => cases h; rfl
  | _ => rfl
theorem single_one {w0 : World} {σ0 σ gh st w} (hb : Base w0 σ0 σ gh st w) {v : Value} {a : AV} (h : RepA σ gh st v a) (hs : a.single = true) (hok : ∀ s k lo n, a = .h s k lo n → ∃ e sz xs, st[s]? = some (.row k e sz xs)) (hok2 : ∀ s k i off, a ≠ .ep s k i off) : v.oneCell' = true := by
  cases a with
  | v x => cases x with
    | one d => exact Rep.one (h : Rep σ v d)
    | agg _ => simp [AV.single] at hs
  | ptr s off => obtain ⟨b, _, rfl⟩ := h; rfl
  | h s k lo n =>
    obtain ⟨e, sz, xs, h1⟩ := hok s k lo n rfl
    obtain ⟨g, o, h2, h3, h4⟩ := h
    rw [h1] at h3
    cases h3
    obtain ⟨_, h5⟩ := h4 _ _ _ _ rfl
    obtain ⟨_, h6⟩ := h5 rfl
    obtain ⟨vals, h7, _⟩ := hb.obj s _ _ h1 h2
    rcases h6 with ⟨_, _, rfl⟩ | ⟨b, m, c, _, _, ⟨_, _, a, rfl⟩ | rfl⟩
    · rcases h7.2 with ⟨rfl, _⟩ | ⟨_, _, _, rfl, _⟩ <;> rfl
    · rfl
    · rfl
  | ep s k i off => exact absurd rfl (hok2 s k i off)
  | omap s => obtain ⟨_, r, rfl⟩ := h; rfl
  | clo f caps => obtain ⟨us, rfl, _⟩ := h; rfl
  | bs _ _ => simp [AV.single] at hs
  | tup _ => simp [AV.single] at hs
  | pkg _ => simp [AV.single] at hs
  | junk => simp [AV.single] at hs
section
variable {P : Program} {E : Operand → AV} {st : List AO}
def okSingle (st : List AO) : AV → Prop
  | .h s k _ _ => ∃ e sz xs, st[s]? = some (.row k e sz xs)
  | .ep _ _ _ _ => False
  | a => a.single = true
theorem okSingle_one {w0 : World} {σ0 σ gh w} (hb : Base w0 σ0 σ gh st w) {v : Value} {a : AV} (h : RepA σ gh st v a) (hs : okSingle st a) : v.oneCell' = true :=
  single_one hb h (by cases a <;> first | rfl | exact hs) (fun s k lo n e => by subst e; exact hs) (fun s k i off e => by subst e; exact hs)
theorem op_store_ptr1 (t : TypeId) (x y : Operand) (s off : Nat) (a : AV) {bT : TypeId} (cells : List AV) (ht : ldT P t = some (1, false)) (hx : E x = .ptr s off) (hy : E y = a) (hst : st[s]? = some (.box bT cells))
    (ha : okSingle st a) (hoff : off < cells.length) :
    OpS P (.store t x y) E st .junk (st.set s (.box bT (cells.take off ++ [a] ++ cells.drop (off + 1)))) := by
  intro o ho w0 σ0 σ gh ρ w hb hρ
  have h1 := hρ x (by simp [Op.operands])
  have h2 := hρ y (by simp [Op.operands])
  rw [hx] at h1
  rw [hy] at h2
  have hone := okSingle_one hb h2 ha
  obtain ⟨b, w', e1, e2, hf⟩ := box_store (P := P) hb h1 hst [ρ y] [a] rfl (fun i v a' hv ha' => by
    cases i with
    | zero => simp at hv ha'; subst hv ha'; exact h2
    | succ i => simp at hv) (by simpa using hone) (by simp; omega)
  have hsz := (ldT_one ht w).2
  have : (execOp ρ o).run P w = .ok .skip w' := by
    simp [execOp, ho, e1, Instr.storeAt, Instr.sureAddr, storeVar, one_cells hone, hsz, e2]
  rw [this]
  exact ⟨rfl, σ, gh, hf⟩
theorem op_store_ptr (t : TypeId) (x y : Operand) (n s off : Nat) (ds : List D) {bT : TypeId} (cells : List AV) (ht : ldT P t = some (n, true)) (hx : E x = .ptr s off) (hy : E y = .agg ds) (hst : st[s]? = some (.box bT cells))
    (hn : ds.length = n) (hoff : off + n ≤ cells.length) :
    OpS P (.store t x y) E st .junk (st.set s (.box bT (cells.take off ++ ds.map AV.d ++ cells.drop (off + n)))) := by
  intro o ho w0 σ0 σ gh ρ w hb hρ
  have h1 := hρ x (by simp [Op.operands])
  have h2 := hρ y (by simp [Op.operands])
  rw [hx] at h1
  rw [hy] at h2
  obtain ⟨vs, e0, hl, hr⟩ := h2
  obtain ⟨b, w', e1, e2, hf⟩ := box_store (P := P) hb h1 hst vs (ds.map AV.d) (by simpa using hl) (fun i v a hv ha => by
    simp only [List.getElem?_map, Option.map_eq_some_iff] at ha
    obtain ⟨d, hd, rfl⟩ := ha
    exact hr i v d hv hd) (fun v hv => by
      obtain ⟨i, hi, rfl⟩ := List.getElem_of_mem hv
      have hi' : i < ds.length := by omega
      exact (hr i _ ds[i] (by simp [hi]) (by simp [hi'])).one) (by simp; omega)
  have hsz := (ldT_agg ht w).2
  have : (execOp ρ o).run P w = .ok .skip w' := by
    have hl' : vs.length = n := by omega
    simp [execOp, ho, e1, e0, Instr.storeAt, Instr.sureAddr, storeVar, Value.cells, hsz, e2, hl']
  rw [this]
  simp only [List.length_map, hn] at hf
  exact ⟨rfl, σ, gh, hf⟩
theorem new_box {w0 : World} {σ0 σ gh w} (hb : Base w0 σ0 σ gh st w) (vals : Array Value) (T : TypeId) (cells : List AV) (hl : vals.size = cells.length)
    (hr : ∀ (i : Nat) v c, vals[i]? = some v → cells[i]? = some c → RepA σ gh st v c) (h1 : ∀ v ∈ vals, v.oneCell' = true) :
    Fut w0 σ0 σ gh st σ (gh ++ [.pointer (some ⟨w.heap.size, 0, none⟩)]) (st ++ [.box T cells]) (w.alloc (.cells vals T)) :=
  hb.push (World.grownBy_alloc w _ none) _ _ (fun b hb' => by simp [blkOf] at hb'; subst hb'; simp)
    ⟨w.heap.size, vals, rfl, hb.below.size, heap_alloc_new w _, hl, hr, hb.sl.fresh (Nat.le_refl _), h1⟩
theorem ptr_last {σ : Sig} {gh : List Value} {w : World} {w0 σ0} (hb : Base w0 σ0 σ gh st w) (st' : List AO) : RepA σ (gh ++ [.pointer (some ⟨w.heap.size, 0, none⟩)]) st' (.pointer (some ⟨w.heap.size, 0, none⟩)) (.ptr st.length 0) :=
  ⟨w.heap.size, by rw [← hb.len]; simp, rfl⟩
def zeroOf (P : Program) (t : TypeId) : Option (List AV) :=
  match P.info? t with
  | some i => match i.zero with
    | some z => if z.cells.toList.all cOk && z.cells.toList.all (·.oneCell') then some (z.cells.toList.map cAV) else none
    | none => none
  | none => none
theorem op_alloc (t : TypeId) (cells : List AV) (hz : zeroOf P t = some cells) : OpS P (.alloc t) E st (.ptr st.length 0) (st ++ [.box t cells]) := by
  intro o ho w0 σ0 σ gh ρ w hb hρ
  unfold zeroOf at hz
  split at hz <;> try cases hz
  rename_i i hi
  split at hz <;> try cases hz
  rename_i z hz0
  split at hz <;> try cases hz
  rename_i hall
  simp only [Bool.and_eq_true, List.all_eq_true] at hall
  have : (execOp ρ o).run P w = .ok (.value (.pointer (some ⟨w.heap.size, 0, none⟩))) (w.alloc (.cells z.cells t)) := by
    simp [execOp, ho, Instr.alloc, zeroValue, typeInfo, hi, hz0, newVar, newRow]
  rw [this]
  refine ⟨σ, _, new_box hb z.cells t _ (by simp) (fun j v c hv hc => ?_) (fun v hv => hall.2 v (by simpa using hv)), ptr_last hb _⟩
  simp only [List.getElem?_map, Option.map_eq_some_iff] at hc
  obtain ⟨v', hv', rfl⟩ := hc
  have e : v' = v := by simp at hv'; rw [hv] at hv'; cases hv'; rfl
  subst e
  exact repV_cAV (hall.1 v' (List.mem_of_getElem? hv'))
theorem op_box_agg (t : TypeId) (x : Operand) (ds : List D) (hx : E x = .agg ds) : OpS P (.box t x) E st (.ptr st.length 0) (st ++ [.box t (ds.map AV.d)]) := by
  intro o ho w0 σ0 σ gh ρ w hb hρ
  have h1 := hρ x (by simp [Op.operands])
  rw [hx] at h1
  obtain ⟨vs, e0, hl, hr⟩ := h1
  have : (execOp ρ o).run P w = .ok (.value (.pointer (some ⟨w.heap.size, 0, none⟩))) (w.alloc (.cells vs.toArray t)) := by
    simp [execOp, ho, e0, Instr.box, newVar, newRow, Value.cells]
  rw [this]
  refine ⟨σ, _, new_box hb vs.toArray t _ (by simpa using hl) (fun j v c hv hc => ?_) (fun v hv => ?_), ptr_last hb _⟩
  · simp only [List.getElem?_map, Option.map_eq_some_iff] at hc
    obtain ⟨d, hd, rfl⟩ := hc
    exact hr j v d (by simpa using hv) hd
  · obtain ⟨i, hi, rfl⟩ := List.getElem_of_mem (by simpa using hv : v ∈ vs)
    have hi' : i < ds.length := by omega
    exact (hr i _ ds[i] (by simp [hi]) (by simp [hi'])).one
theorem op_box1 (t : TypeId) (x : Operand) (a : AV) (hx : E x = a) (ha : okSingle st a) : OpS P (.box t x) E st (.ptr st.length 0) (st ++ [.box t [a]]) := by
  intro o ho w0 σ0 σ gh ρ w hb hρ
  have h1 := hρ x (by simp [Op.operands])
  rw [hx] at h1
  have hone := okSingle_one hb h1 ha
  have : (execOp ρ o).run P w = .ok (.value (.pointer (some ⟨w.heap.size, 0, none⟩))) (w.alloc (.cells #[ρ x] t)) := by
    simp [execOp, ho, Instr.box, newVar, newRow, one_cells hone]
  rw [this]
  refine ⟨σ, _, new_box hb #[ρ x] t _ (by simp) (fun j v c hv hc => ?_) (fun v hv => by simp at hv; subst hv; exact hone), ptr_last hb _⟩
  cases j with
  | zero => simp at hv hc; subst hv hc; exact h1
  | succ j => simp at hv
end
end Go.Proofs.Nw.K
end
section
/- K6: lists: length, elements, pieces, append; structs built; results apart. -/
open Go Go.RowKit
namespace Go.Proofs.Nw.K
theorem list_val {σ : Sig} {gh st} {u : Value} {sz : Nat} {xs : List (List D)} (h : RepA σ gh st u (.list sz xs)) : ∃ A c, u = .slice A xs.length c ∧ c ≤ maxLen := by
  have h : Rep σ u (.list sz xs) := h
  cases h with
  | nil hm => exact ⟨_, _, rfl, hm⟩
  | list val hn h0 hc hm _ _ _ => exact ⟨_, _, by rw [hn], hm⟩
theorem nils_val {σ : Sig} {gh st} {u : Value} (h : RepA σ gh st u .nils) : u = .slice none 0 0 := by
  have h : Rep σ u .nils := h
  cases h with
  | nils => rfl
theorem HRep_val {g : Value} {sz len lo n : Nat} {v : Value} (h : HRep g sz len lo n v) (hg : ∃ A c, g = .slice A len c) : ∃ A c, v = .slice A n c := by
  obtain ⟨h0, ⟨h1, h2, h3⟩ | ⟨b, m, c, h1, h2, ⟨h3, _, a, h4⟩ | h3⟩⟩ := h
  · obtain ⟨A, c, e⟩ := hg; exact ⟨A, c, by rw [h3, e, h2]⟩
  · subst h3; exact ⟨_, _, h4⟩
  · exact ⟨_, _, h3⟩
section
variable {P : Program} {E : Operand → AV} {st : List AO}
theorem row_val {w0 : World} {σ0 σ gh w} (hb : Base w0 σ0 σ gh st w) {s k e sz : Nat} {xs} (hst : st[s]? = some (.row k e sz xs)) {g : Value} (hg : gh[s]? = some g) : ∃ A c, g = .slice A xs.length c ∧ xs.length ≤ c := by
  obtain ⟨vals, h1, _⟩ := hb.obj s _ _ hst hg
  rcases h1.2 with ⟨rfl, h⟩ | ⟨b, cap, cur, rfl, _, _, h, _⟩
  · exact ⟨none, 0, by rw [h], by omega⟩
  · exact ⟨_, _, rfl, h⟩
theorem h_val {w0 : World} {σ0 σ gh w} (hb : Base w0 σ0 σ gh st w) {s k lo n e sz : Nat} {xs} (hst : st[s]? = some (.row k e sz xs)) {u : Value} (h : RepA σ gh st u (.h s k lo n)) : ∃ g, gh[s]? = some g ∧ HRep g sz xs.length lo n u ∧ ∃ A c, u = .slice A n c := by
  obtain ⟨g, o, h1, h2, h3⟩ := h
  rw [hst] at h2
  cases h2
  obtain ⟨_, h4⟩ := h3 _ _ _ _ rfl
  obtain ⟨A, c, hv, _⟩ := row_val hb hst h1
  exact ⟨g, h1, h4 rfl, HRep_val (h4 rfl) ⟨A, c, hv⟩⟩
inductive LenOf (P : Program) (st : List AO) (t : TypeId) : AV → Nat → Prop
  | list {e sz xs} (h : P.underlying t = some (.slice e)) : LenOf P st t (.list sz xs) xs.length
  | nils {e} (h : P.underlying t = some (.slice e)) : LenOf P st t .nils 0
  | h {e s k lo n e' sz xs} (h : P.underlying t = some (.slice e)) (hst : st[s]? = some (.row k e' sz xs)) : LenOf P st t (.h s k lo n) n
  | str {s} (h : P.underlying t = some .string) : LenOf P st t (.str s) s.size
theorem op_len (t : TypeId) (x : Operand) (n : Nat) (hl : LenOf P st t (E x) n) : OpS P (.call { callee := .builtin .len, args := #[x], argTypes := #[t] }) E st (.int n) st :=
  op_pure fun o ho w0 σ0 σ gh ρ w hb hρ => by
    have h1 := hρ x (by simp [Op.operands, Call.operands])
    refine ⟨.int .i64 n, ?_, RepA_of_sc rfl⟩
    generalize E x = a at *
    cases hl with
    | list hu => obtain ⟨A, c, hv, _⟩ := list_val h1; simp [execOp, ho, resolve, invoke, builtin, Builtin.len_, run_underlying hu, hv, goInt]
    | nils hu => have hv := nils_val h1; simp [execOp, ho, resolve, invoke, builtin, Builtin.len_, run_underlying hu, hv, goInt]
    | h hu hst => obtain ⟨g, _, _, A, c, hv⟩ := h_val hb hst h1; simp [execOp, ho, resolve, invoke, builtin, Builtin.len_, run_underlying hu, hv, goInt]
    | str hu => have hv := RepA_sc h1; simp [execOp, ho, resolve, invoke, builtin, Builtin.len_, run_underlying hu, hv, goInt]
def bt (s : ByteArray) (n : Nat) : Int := ((s.data[n]?).getD 0).toNat
theorem op_index_str (t : TypeId) (x i : Operand) (k : IntKind) (n : Int) (s : ByteArray) (hu : P.underlying t = some .string) (hx : E x = .str s) (hi : E i = .sc (.int k n)) (h0 : 0 ≤ n) (h1 : n < s.size) :
    OpS P (.index t x i) E st (.byte (bt s n.toNat)) st :=
  op_pure fun o ho w0 σ0 σ gh ρ w hb hρ => by
    have h2 := hρ x (by simp [Op.operands])
    have h3 := hρ i (by simp [Op.operands])
    rw [hx] at h2
    rw [hi] at h3
    have hlt : n.toNat < s.size := by omega
    refine ⟨.int .u8 (bt s n.toNat), ?_, RepA_of_sc rfl⟩
    have hget : s[n.toNat]? = some s[n.toNat] := by simp [hlt]
    have hbt : bt s n.toNat = (s[n.toNat].toNat : Int) := by
      unfold bt
      have : s.data[n.toNat]? = some s[n.toNat] := by
        rw [Array.getElem?_eq_getElem (by simpa using hlt)]; rfl
      rw [this]; rfl
    simp [execOp, ho, RepA_sc h2, RepA_sc h3, Instr.index, asIntOf, run_underlying hu, h0, hget, hbt]
theorem op_slice_str (t : TypeId) (x : Operand) (lo hi : Option Operand) (l h : Nat) (s : ByteArray) (hu : P.underlying t = some .string) (hx : E x = .str s)
    (hl : match lo with | some o => ∃ n : Int, E o = .int n ∧ 0 ≤ n ∧ n.toNat = l | none => l = 0) (hh : match hi with | some o => ∃ n : Int, E o = .int n ∧ 0 ≤ n ∧ n.toNat = h | none => h = s.size)
    (h1 : l ≤ h) (h2 : h ≤ s.size) : OpS P (.slice t x lo hi none) E st (.str (s.extract l h)) st :=
  op_pure fun o ho w0 σ0 σ gh ρ w hb hρ => by
    have h3 := hρ x (by simp [Op.operands])
    rw [hx] at h3
    refine ⟨.string (s.extract l h), ?_, RepA_of_sc rfl⟩
    cases lo with
    | none =>
      simp only at hl
      subst hl
      cases hi with
      | none =>
        simp only at hh
        subst hh
        simp [execOp, ho, RepA_sc h3, Instr.sliceAt, Instr.slice, Instr.sliceBounds, run_underlying hu]
      | some oh =>
        obtain ⟨n, e1, e2, e3⟩ := hh
        have h4 := hρ oh (by simp [Op.operands])
        rw [e1] at h4
        have : n ≤ (s.size : Int) := by omega
        simp [execOp, ho, RepA_sc h3, RepA_sc h4, Instr.sliceAt, Instr.slice, Instr.sliceBounds, Instr.sliceBound, asIntOf, run_underlying hu, e2, this, e3]
    | some ol =>
      obtain ⟨m, f1, f2, f3⟩ := hl
      have h5 := hρ ol (by simp [Op.operands])
      rw [f1] at h5
      cases hi with
      | none =>
        simp only at hh
        subst hh
        have : m ≤ (s.size : Int) := by omega
        simp [execOp, ho, RepA_sc h3, RepA_sc h5, Instr.sliceAt, Instr.slice, Instr.sliceBounds, Instr.sliceBound, asIntOf, run_underlying hu, f2, this, f3]
      | some oh =>
        obtain ⟨n, e1, e2, e3⟩ := hh
        have h4 := hρ oh (by simp [Op.operands])
        rw [e1] at h4
        have : n ≤ (s.size : Int) := by omega
        have : m ≤ (h : Int) := by omega
        simp [execOp, ho, RepA_sc h3, RepA_sc h4, RepA_sc h5, Instr.sliceAt, Instr.slice, Instr.sliceBounds, Instr.sliceBound, asIntOf, run_underlying hu, e2, f2, f3, e3, *]
theorem run_sliceAt {t e : TypeId} {ρ : Operand → Value} {w : World} (hu : P.underlying t = some (.slice e)) (sz : Nat) (hs : (sizeOf e).run P w = .ok sz w) (A : Option Addr) (len cap : Nat) (lo hi : Option Operand) (l h : Nat)
    (hl : match lo with | some o => ∃ n : Int, ρ o = .int .i64 n ∧ 0 ≤ n ∧ n.toNat = l | none => l = 0) (hh : match hi with | some o => ∃ n : Int, ρ o = .int .i64 n ∧ 0 ≤ n ∧ n.toNat = h | none => h = len)
    (h1 : l ≤ h) (h2 : h ≤ cap) : (Instr.sliceAt t (.slice A len cap) (lo.map ρ) (hi.map ρ) none).run P w = .ok (.slice (if cap = l then A else A.map (·.add (l * sz))) (h - l) (cap - l)) w := by
  cases lo with
  | none =>
    simp only at hl
    subst hl
    cases hi with
    | none =>
      simp only at hh
      subst hh
      simp [Instr.sliceAt, Instr.slice, Instr.sliceBounds, run_underlying hu, hs]
    | some oh =>
      obtain ⟨n, e1, e2, e3⟩ := hh
      have : n ≤ (cap : Int) := by omega
      simp [Instr.sliceAt, Instr.slice, Instr.sliceBounds, Instr.sliceBound, asIntOf, run_underlying hu, e1, e2, this, e3, hs]
  | some ol =>
    obtain ⟨m, f1, f2, f3⟩ := hl
    cases hi with
    | none =>
      simp only at hh
      subst hh
      have : m ≤ (h : Int) := by omega
      simp [Instr.sliceAt, Instr.slice, Instr.sliceBounds, Instr.sliceBound, asIntOf, run_underlying hu, f1, f2, this, f3, hs]
    | some oh =>
      obtain ⟨n, e1, e2, e3⟩ := hh
      have : n ≤ (cap : Int) := by omega
      have : m ≤ (h : Int) := by omega
      simp [Instr.sliceAt, Instr.slice, Instr.sliceBounds, Instr.sliceBound, asIntOf, run_underlying hu, e1, f1, e2, f2, f3, e3, hs, *]
def loIs (E : Operand → AV) (l : Nat) : Option Operand → Prop
  | some o => ∃ n : Int, E o = .int n ∧ 0 ≤ n ∧ n.toNat = l
  | none => l = 0
def hiIs (E : Operand → AV) (len h : Nat) : Option Operand → Prop
  | some o => ∃ n : Int, E o = .int n ∧ 0 ≤ n ∧ n.toNat = h
  | none => h = len
theorem rep_piece {σ : Sig} {u : Value} {sz : Nat} {xs : List (List D)} (h : Rep σ u (.list sz xs)) {l h' : Nat} (h1 : l ≤ h') (h2 : h' ≤ xs.length) :
    ∃ A c, u = .slice A xs.length c ∧ xs.length ≤ c + 0 ∧ Rep σ (.slice (if c = l then A else A.map (·.add (l * sz))) (h' - l) (c - l)) (.list sz ((xs.take h').drop l)) := by
  cases h with
  | nil hm =>
    simp at h2
    subst h2
    have : l = 0 := by omega
    subst this
    exact ⟨_, _, rfl, by simp, by simpa using Rep.nil (by omega)⟩
  | @list b off n c _ _ val hn h0 hc hm hsz hcell hval =>
    subst hn
    refine ⟨_, _, rfl, by omega, ?_⟩
    by_cases e : h' = l
    · subst e
      have : (xs.take h').drop h' = [] := by simp
      rw [this, Nat.sub_self]
      exact .nil (by omega)
    · have hcl : c ≠ l := by omega
      rw [if_neg hcl]
      simp only [Option.map_some, add_lit]
      refine .list (fun i j => val (l + i) j) (by simp; omega) (by omega) (by omega) (by omega) (fun i x hx => ?_) (fun i j hi hj => ?_) (fun i j x d hx hd => ?_)
      · rw [List.getElem?_drop, List.getElem?_take] at hx
        split at hx
        · exact hsz _ x hx
        · cases hx
      · rw [show off + l * sz + i * sz + j = off + (l + i) * sz + j by rw [Nat.add_mul]; omega]
        exact hcell (l + i) j (by omega) hj
      · rw [List.getElem?_drop, List.getElem?_take] at hx
        split at hx
        · exact hval _ j x d hx hd
        · cases hx
theorem op_slice_list (t e : TypeId) (sz : Nat) (x : Operand) (lo hi : Option Operand) (l h : Nat) (xs : List (List D)) (ht : elT P t = some (e, sz)) (hx : E x = .list sz xs)
    (hl : loIs E l lo) (hh : hiIs E xs.length h hi) (h1 : l ≤ h) (h2 : h ≤ xs.length) : OpS P (.slice t x lo hi none) E st (.list sz ((xs.take h).drop l)) st :=
  op_pure fun o ho w0 σ0 σ gh ρ w hb hρ => by
    have h3 := hρ x (by simp [Op.operands])
    rw [hx] at h3
    obtain ⟨hu, i, hi', hs⟩ := elT_spec ht
    obtain ⟨A, c, hv, hc, hr⟩ := rep_piece (h3 : Rep σ (ρ x) (.list sz xs)) h1 h2
    have hrun := run_sliceAt (P := P) (ρ := ρ) (w := w) hu sz (by simp [sizeOf, typeInfo, hi', hs]) A xs.length c lo hi l h ?_ ?_ h1 (by omega)
    · exact ⟨_, by simp [execOp, ho, hv, hrun], hr⟩
    · cases lo with
      | none => exact hl
      | some ol =>
        obtain ⟨m, f1, f2, f3⟩ := hl
        have h5 := hρ ol (by simp [Op.operands])
        rw [f1] at h5
        exact ⟨m, RepA_sc h5, f2, f3⟩
    · cases hi with
      | none => exact hh
      | some ol =>
        obtain ⟨m, f1, f2, f3⟩ := hh
        have h5 := hρ ol (by simp [Op.operands])
        rw [f1] at h5
        exact ⟨m, RepA_sc h5, f2, f3⟩
theorem op_slice_h (t e : TypeId) (sz : Nat) (x : Operand) (lo hi : Option Operand) (l h s k off n e' : Nat) (xs : List (List D)) (ht : elT P t = some (e, sz)) (hx : E x = .h s k off n) (hst : st[s]? = some (.row k e' sz xs))
    (hl : loIs E l lo) (hh : hiIs E n h hi) (h1 : l ≤ h) (h2 : h ≤ n) : OpS P (.slice t x lo hi none) E st (.h s k (off + l) (h - l)) st :=
  op_pure fun o ho w0 σ0 σ gh ρ w hb hρ => by
    have h3 := hρ x (by simp [Op.operands])
    rw [hx] at h3
    obtain ⟨hu, i, hi', hs⟩ := elT_spec ht
    obtain ⟨g, hg, hR, A, c, hv⟩ := h_val hb hst h3
    obtain ⟨A', c', hgv, hc'⟩ := row_val hb hst hg
    have hcn : n ≤ c := by
      obtain ⟨h0, ⟨a1, a2, a3⟩ | ⟨b, m, c2, a1, a2, ⟨a3, _, a, a4⟩ | a3⟩⟩ := hR
      · rw [hv, hgv] at a3; cases a3; omega
      · omega
      · rw [hv] at a3; cases a3; omega
    have hrun := run_sliceAt (P := P) (ρ := ρ) (w := w) hu sz (by simp [sizeOf, typeInfo, hi', hs]) A n c lo hi l h ?_ ?_ h1 (by omega)
    · refine ⟨_, by simp [execOp, ho, hv, hrun]; rfl, g, _, hg, hst, fun k' e2 sz2 xs2 heq => ?_⟩
      cases heq
      refine ⟨Nat.le_refl _, fun _ => ?_⟩
      obtain ⟨h0, hR⟩ := hR
      refine ⟨by omega, ?_⟩
      rcases hR with ⟨a1, a2, a3⟩ | ⟨b, m, c2, a1, a2, ⟨a3, a5, a, a4⟩ | a3⟩
      · rw [hv, hgv] at a3
        cases a3
        subst a1
        obtain ⟨vals, hown, _⟩ := hb.obj s _ _ hst hg
        rcases hown.2 with ⟨e1, e2⟩ | ⟨b, cap, cur, e1, _⟩
        · rw [hgv] at e1
          injection e1 with e3 e4 e5
          have : l = 0 := by omega
          have : h = 0 := by omega
          subst l h
          refine .inl ⟨by simp, by omega, ?_⟩
          rw [hgv, e3, e4, e5]
          simp
        · rw [hgv] at e1
          injection e1 with e3 e4 e5
          subst e3
          by_cases e0 : l = 0 ∧ h = xs.length
          · obtain ⟨e0, e0'⟩ := e0
            subst e0 e0'
            refine .inl ⟨by simp, by omega, ?_⟩
            rw [hgv]
            split <;> simp [add_lit]
          · refine .inr ⟨b, xs.length, c, hgv, by omega, ?_⟩
            split
            · rename_i hcl
              exact .inl ⟨by omega, by omega, _, by rw [Nat.zero_add]; congr 1; omega⟩
            · exact .inr (by simp [add_lit])
      · subst a3
        have : l = 0 := by omega
        have : h = 0 := by omega
        subst l h
        rw [hv] at a4
        cases a4
        exact .inr ⟨b, m, c2, a1, by omega, .inl ⟨by omega, by omega, _, by simp; rfl⟩⟩
      · rw [hv] at a3
        cases a3
        by_cases hcl : c2 - off = l
        · rw [if_pos hcl]
          by_cases hz : off + l = 0
          · refine .inr ⟨b, m, c2, a1, by omega, .inr ?_⟩
            have e1 : off = 0 := by omega
            have e2 : l = 0 := by omega
            subst e1 e2
            simp
          · exact .inr ⟨b, m, c2, a1, by omega, .inl ⟨by omega, by omega, _, by rw [Nat.sub_sub]; congr 1; omega⟩⟩
        · rw [if_neg hcl]
          refine .inr ⟨b, m, c2, a1, by omega, .inr ?_⟩
          simp only [Option.map_some, add_lit, Nat.zero_add]
          rw [Nat.sub_sub, Nat.add_mul]
    · cases lo with
      | none => exact hl
      | some ol =>
        obtain ⟨m, f1, f2, f3⟩ := hl
        have h5 := hρ ol (by simp [Op.operands])
        rw [f1] at h5
        exact ⟨m, RepA_sc h5, f2, f3⟩
    · cases hi with
      | none => exact hh
      | some ol =>
        obtain ⟨m, f1, f2, f3⟩ := hh
        have h5 := hρ ol (by simp [Op.operands])
        rw [f1] at h5
        exact ⟨m, RepA_sc h5, f2, f3⟩
end
end Go.Proofs.Nw.K
end
section
/- K7: append; slices and structs built; rows written in place. -/
open Go Go.RowKit
namespace Go.Proofs.Nw.K
def RepRows (σ : Sig) (vals : List Value) (sz : Nat) (xs : List (List D)) : Prop :=
  (∀ (i : Nat) x, xs[i]? = some x → x.length = sz) ∧ ∀ (i j : Nat) x d, xs[i]? = some x → x[j]? = some d → ∃ v, vals[i * sz + j]? = some v ∧ Rep σ v d
theorem RepRows.append {σ : Sig} {a b : List Value} {sz : Nat} {xs ys} (h : RepRows σ a sz xs) (hl : a.length = xs.length * sz) (k : RepRows σ b sz ys) : RepRows σ (a ++ b) sz (xs ++ ys) := by
  refine ⟨fun i x hx => ?_, fun i j x d hx hd => ?_⟩
  · rw [List.getElem?_append] at hx
    split at hx
    · exact h.1 _ _ hx
    · exact k.1 _ _ hx
  · rw [List.getElem?_append] at hx
    have hj : ∀ {zs : List (List D)} {i : Nat}, (∀ (i : Nat) x, zs[i]? = some x → x.length = sz) → zs[i]? = some x → j < sz := fun hz hx => by
      rw [← hz _ _ hx]; exact (List.getElem?_eq_some_iff.1 hd).1
    split at hx
    · rename_i hi
      obtain ⟨v, h1, h2⟩ := h.2 i j x d hx hd
      exact ⟨v, by rw [List.getElem?_append_left (List.getElem?_eq_some_iff.1 h1).1]; exact h1, h2⟩
    · rename_i hi
      obtain ⟨v, h1, h2⟩ := k.2 _ j x d hx hd
      refine ⟨v, ?_, h2⟩
      have : a.length ≤ i * sz + j := by rw [hl]; exact Nat.le_trans (Nat.mul_le_mul_right _ (by omega)) (Nat.le_add_right _ _)
      rw [List.getElem?_append_right this, hl]
      rw [← h1, Nat.sub_mul]
      congr 1
      have := Nat.mul_le_mul_right sz (show xs.length ≤ i by omega)
      omega
theorem RepRows.take {σ : Sig} {a : List Value} {sz : Nat} {xs} (h : RepRows σ a sz xs) (n : Nat) : RepRows σ (a.take (n * sz)) sz (xs.take n) := by
  refine ⟨fun i x hx => ?_, fun i j x d hx hd => ?_⟩
  · rw [List.getElem?_take] at hx
    split at hx
    · exact h.1 _ _ hx
    · cases hx
  · rw [List.getElem?_take] at hx
    split at hx
    · rename_i hi
      obtain ⟨v, h1, h2⟩ := h.2 i j x d hx hd
      have hj : j < sz := by rw [← h.1 _ _ hx]; exact (List.getElem?_eq_some_iff.1 hd).1
      refine ⟨v, ?_, h2⟩
      rw [List.getElem?_take_of_lt ?_]
      · exact h1
      · calc i * sz + j < i * sz + sz := by omega
          _ = (i + 1) * sz := by rw [Nat.add_mul]; omega
          _ ≤ n * sz := Nat.mul_le_mul_right _ (by omega)
    · cases hx
theorem RepRows.drop {σ : Sig} {a : List Value} {sz : Nat} {xs} (h : RepRows σ a sz xs) (n : Nat) : RepRows σ (a.drop (n * sz)) sz (xs.drop n) := by
  refine ⟨fun i x hx => h.1 _ _ (by rw [List.getElem?_drop] at hx; exact hx), fun i j x d hx hd => ?_⟩
  rw [List.getElem?_drop] at hx
  obtain ⟨v, h1, h2⟩ := h.2 _ j x d hx hd
  refine ⟨v, ?_, h2⟩
  rw [List.getElem?_drop, ← h1]
  congr 1
  rw [Nat.add_mul]; omega
inductive Src (st : List AO) : AV → Nat → List (List D) → Prop
  | list {sz ys} : Src st (.list sz ys) sz ys
  | nils {sz} : Src st .nils sz []
  | h {s k e sz lo n xs ys} (hst : st[s]? = some (.row k e sz xs)) (hy : ys = (xs.drop lo).take n) : Src st (.h s k lo n) sz ys
theorem src_cells {w0 : World} {σ0 σ gh st w} (hb : Base w0 σ0 σ gh st w) {u : Value} {a : AV} {sz : Nat} {ys} (h : RepA σ gh st u a) (hs : Src st a sz ys) :
    ∃ A c, u = .slice A ys.length c ∧ (ys = [] ∨ ∃ ad news, A = some ad ∧ news.length = ys.length * sz ∧ (∀ j v, news[j]? = some v → w.cell? (ad.add j) = some v) ∧ (∀ v ∈ news, v.oneCell' = true) ∧ RepRows σ news sz ys) := by
  cases hs with
  | nils => exact ⟨none, 0, nils_val h, .inl rfl⟩
  | list =>
    have h : Rep σ u (.list sz ys) := h
    cases h with
    | nil _ => exact ⟨_, _, rfl, .inl rfl⟩
    | @list b off n c _ _ val hn h0 hc hm hsz hcell hval =>
      subst hn
      have hdiv : ∀ q, q < ys.length * sz → q / sz < ys.length ∧ q % sz < sz ∧ q / sz * sz + q % sz = q := fun q hq => by
        have hp : 0 < sz := by rcases Nat.eq_zero_or_pos sz with e | e; (subst e; simp at hq); exact e
        exact ⟨(Nat.div_lt_iff_lt_mul hp).2 hq, Nat.mod_lt _ hp, by rw [Nat.mul_comm]; exact Nat.div_add_mod q sz⟩
      have hnews : ∀ j v, ((List.range (ys.length * sz)).map fun q => val (q / sz) (q % sz))[j]? = some v → j < ys.length * sz ∧ v = val (j / sz) (j % sz) := fun j v hv => by
        simp only [List.getElem?_map, Option.map_eq_some_iff] at hv
        obtain ⟨j', hj', rfl⟩ := hv
        obtain ⟨h3, h4⟩ := List.getElem?_eq_some_iff.1 hj'
        simp at h3 h4
        subst h4
        exact ⟨h3, rfl⟩
      have hat : ∀ q, q < ys.length * sz → w.cell? ⟨b, off + q, none⟩ = some (val (q / sz) (q % sz)) ∧ (val (q / sz) (q % sz)).oneCell' = true := fun q hq => by
        obtain ⟨q1, q2, q3⟩ := hdiv q hq
        have := hb.sl.cell _ _ _ (hcell _ _ q1 q2)
        rw [Nat.add_assoc, q3] at this
        exact this
      refine ⟨_, _, rfl, .inr ⟨⟨b, off, none⟩, (List.range (ys.length * sz)).map fun q => val (q / sz) (q % sz), rfl, by simp, fun j v hv => ?_, fun v hv => ?_, hsz, fun i j x d hx hd => ?_⟩⟩
      · obtain ⟨h1, h2⟩ := hnews j v hv
        rw [add_lit, h2]
        exact (hat j h1).1
      · obtain ⟨j, hj, rfl⟩ := List.getElem_of_mem hv
        obtain ⟨h1, h2⟩ := hnews j _ (List.getElem?_eq_getElem hj)
        rw [h2]
        exact (hat j h1).2
      · have hj : j < sz := by rw [← hsz _ _ hx]; exact (List.getElem?_eq_some_iff.1 hd).1
        have hi : i < ys.length := (List.getElem?_eq_some_iff.1 hx).1
        have hlt : i * sz + j < ys.length * sz := by
          calc i * sz + j < i * sz + sz := by omega
            _ = (i + 1) * sz := by rw [Nat.add_mul]; omega
            _ ≤ ys.length * sz := Nat.mul_le_mul_right _ (by omega)
        refine ⟨val i j, ?_, hval i j x d hx hd⟩
        have e1 : (i * sz + j) / sz = i := by
          rw [Nat.mul_comm, Nat.mul_add_div (by omega), Nat.div_eq_of_lt hj]; rfl
        have e2 : (i * sz + j) % sz = j := by rw [Nat.mul_comm, Nat.mul_add_mod, Nat.mod_eq_of_lt hj]
        simp [hlt, e1, e2]
  | @h s k e _ lo n xs _ hst hy =>
    obtain ⟨g, hg, hR, A, c, hv⟩ := h_val hb hst h
    obtain ⟨vals, hown, hsz, hval, _, hone⟩ := hb.obj s _ _ hst hg
    have hlen : ys.length = n := by subst hy; simp; have := hR.1; omega
    have hrows : RepRows σ vals sz xs := ⟨hsz, hval⟩
    refine ⟨A, c, by rw [hlen]; exact hv, ?_⟩
    by_cases hn : n = 0
    · exact .inl (List.eq_nil_of_length_eq_zero (by omega))
    · right
      have hvl := hown.1
      have : ∃ b, gh[s]? = some g ∧ blkOf g = some b ∧ A = some ⟨b, lo * sz, none⟩ ∧ ∃ m c', g = .slice (some ⟨b, 0, none⟩) m c' := by
        obtain ⟨h0, ⟨a1, a2, a3⟩ | ⟨b, m, c2, a1, a2, ⟨a3, _⟩ | a3⟩⟩ := hR
        · rcases hown.2 with ⟨e1, e2⟩ | ⟨b, cap, cur, e1, _⟩
          · omega
          · rw [hv] at a3
            rw [e1] at a3
            cases a3
            exact ⟨b, hg, by simp [e1, blkOf], by simp [a1], _, _, e1⟩
        · omega
        · rw [hv] at a3
          cases a3
          exact ⟨b, hg, by simp [a1, blkOf], rfl, _, _, a1⟩
      obtain ⟨b, _, hblk, hA, m, c', hgv⟩ := this
      have hcells := hown.cells (g := b) (by simp [hgv, Value.ownBlock])
      refine ⟨_, ((vals.drop (lo * sz)).take (n * sz)), hA, ?_, fun j v hj => ?_, fun v hv' => hone v (List.mem_of_mem_drop (List.mem_of_mem_take hv')), ?_⟩
      · have := Nat.mul_le_mul_right sz hR.1
        rw [Nat.add_mul] at this
        simp [hvl, hlen]; omega
      · rw [add_lit]
        rw [List.getElem?_take] at hj
        split at hj
        · rw [List.getElem?_drop] at hj
          have := hcells _ _ hj
          rwa [add_lit, Nat.zero_add] at this
        · cases hj
      · subst hy
        exact (hrows.drop lo).take n
def appT (P : Program) (t : TypeId) : Option (TypeId × Nat × Nat) :=
  match P.underlying t with
  | some (.slice e) => match P.info? e with
    | some i => match i.zero with
      | some z => if z.cells.size = i.size ∧ 0 < i.size then some (e, i.size, i.bytes) else none
      | none => none
    | none => none
  | _ => none
theorem appT_spec {P : Program} {t e : TypeId} {sz by_ : Nat} (h : appT P t = some (e, sz, by_)) : P.underlying t = some (.slice e) ∧ ∃ i z, P.info? e = some i ∧ i.zero = some z ∧ i.size = sz ∧ i.bytes = by_ ∧ z.cells.size = sz ∧ 0 < sz := by
  unfold appT at h
  split at h
  · rename_i e' hu
    split at h
    · rename_i i hi
      split at h
      · rename_i z hz
        split at h
        · rename_i hc
          cases h
          exact ⟨hu, i, z, hi, hz, rfl, rfl, hc.1, hc.2⟩
        · cases h
      · cases h
    · cases h
  · cases h
section
variable {P : Program} {E : Operand → AV} {st : List AO}
theorem run_append_src {w0 : World} {σ0 σ gh w} (hb : Base w0 σ0 σ gh st w) {t ty e : TypeId} {sz by_ : Nat} (ht : appT P t = some (e, sz, by_)) {base : Nat} {v : Value} {n : Nat} {vals : List Value} (hown : w.ownsRow base e sz v n vals)
    {u : Value} {a : AV} {ys} (h : RepA σ gh st u a) (hs : Src st a sz ys) (hbound : (n + ys.length) * by_ ≤ 140737488355328) (hmax : n + ys.length ≤ maxLen) (hbase : base ≤ w.heap.size) :
    ∃ v' w' news, (Builtin.append_ #[t, t] ty #[v, u]).run P w = .ok v' w' ∧ w'.ownsRow base e sz v' (n + ys.length) (vals ++ news) ∧ w.grownBy w' v.ownBlock ∧ (v'.ownBlock = v.ownBlock ∨ v'.ownBlock = some w.heap.size) ∧
      RepRows σ news sz ys ∧ (∀ x ∈ news, x.oneCell' = true) := by
  obtain ⟨hu, i, z, hi, hz, hsz, hby, hzs, hpos⟩ := appT_spec ht
  obtain ⟨A, c, hv, hc⟩ := src_cells hb h hs
  rcases hc with hnil | ⟨ad, news, hA, hl, hnews, hone, hrows⟩
  · subst hnil
    refine ⟨v, w, [], ?_, by simpa using hown, ⟨rfl, rfl, rfl, Nat.le_refl _, fun _ _ _ => rfl⟩, .inl rfl, ⟨fun i x hx => by simp at hx, fun i j x d hx => by simp at hx⟩, by simp⟩
    have hshape : ∃ A' m' c', v = .slice A' m' c' ∧ m' ≤ c' := by
      rcases hown.2 with ⟨rfl, _⟩ | ⟨g, cap, cur, rfl, _, _, h, _⟩
      · exact ⟨_, _, _, rfl, by omega⟩
      · exact ⟨_, _, _, rfl, h⟩
    obtain ⟨A', m', c', rfl, hmc⟩ := hshape
    have hfc : (Builtin.firstCells sz 0 (.slice A 0 c)).run P w = .ok #[] w := by
      cases A <;> simp [Builtin.firstCells, loadCells, loadCellsFrom]
    rw [hv]
    cases A' <;> simp [Builtin.append_, run_underlying hu, sizeOf, typeInfo, hi, hsz, Builtin.lenOf, hmc, hfc, storeCells]
  · obtain ⟨v', w', h1, h2, h3, _, h5⟩ := run_append_own_at (P := P) w base t ty e i z sz by_ hu hi hz hsz hby hzs hpos v n vals hown ad ys.length c news hl hnews hone hmax hbound hbase
    exact ⟨v', w', news, by rw [hv, hA]; exact h1, h2, h3, h5, hrows, hone⟩
theorem ownsRow_lower {w : World} {base base' : Nat} {e : TypeId} {sz : Nat} {v : Value} {n : Nat} {xs : List Value} (h : w.ownsRow base e sz v n xs) (hb : base' ≤ base) : w.ownsRow base' e sz v n xs := by
  refine ⟨h.1, ?_⟩
  rcases h.2 with h | ⟨g, cap, cur, h1, h2, rest⟩
  · exact .inl h
  · exact .inr ⟨g, cap, cur, h1, by omega, rest⟩
theorem ownBlk {w : World} {base : Nat} {e : TypeId} {sz : Nat} {v : Value} {n : Nat} {xs : List Value} (h : w.ownsRow base e sz v n xs) : blkOf v = v.ownBlock := by
  rcases h.2 with ⟨rfl, _⟩ | ⟨g, cap, cur, rfl, _⟩ <;> rfl
def AppendsAt (P : Program) (w : World) (t u ty e : TypeId) (sz : Nat) (σ : Sig) (val : Value) (ys : List (List D)) (n : Nat) : Prop :=
  ∀ base v vals, w.ownsRow base e sz v n vals → base ≤ w.heap.size →
    ∃ v' w' news, (Builtin.append_ #[t, u] ty #[v, val]).run P w = .ok v' w' ∧ w'.ownsRow base e sz v' (n + ys.length) (vals ++ news) ∧ w.grownBy w' v.ownBlock ∧ (v'.ownBlock = v.ownBlock ∨ v'.ownBlock = some w.heap.size) ∧
      RepRows σ news sz ys ∧ (∀ x ∈ news, x.oneCell' = true)
theorem op_append_nils_ (t u e : TypeId) (sz : Nat) (x y : Operand) (ys : List (List D)) (hx : E x = .nils)
    (hA : ∀ w0 σ0 σ gh w val ty, Base w0 σ0 σ gh st w → RepA σ gh st val (E y) → AppendsAt P w t u ty e sz σ val ys 0) :
    OpS P (.call { callee := .builtin .append, args := #[x, y], argTypes := #[t, u] }) E st (.h st.length 0 0 ys.length) (st ++ [.row 0 e sz ys]) := by
  intro o ho w0 σ0 σ gh ρ w hb hρ
  have h1 := hρ x (by simp [Op.operands, Call.operands])
  have h2 := hρ y (by simp [Op.operands, Call.operands])
  rw [hx] at h1
  have h1 := nils_val h1
  obtain ⟨v', w', news, hr, hown, hg, hat, hrows, hone⟩ := hA w0 σ0 σ gh w _ o.type hb h2 _ _ _ (World.ownsRow_nil w w.heap.size e sz) (Nat.le_refl _)
  simp only [Nat.zero_add] at hown
  have : (execOp ρ o).run P w = .ok (.value v') w' := by
    simp [execOp, ho, resolve, invoke, builtin, h1, hr]
  rw [this]
  simp only [Value.ownBlock] at hg hat
  have hbelow : w0.heap.size ≤ w.heap.size := hb.below.size
  have hbk := ownBlk hown
  have hbl : ∀ b, blkOf v' = some b → w.heap.size ≤ b ∧ b < w'.heap.size := fun b hb' => hown.lt b (by rw [← hbk]; exact hb')
  have hf := hb.push hg v' (.row 0 e sz ys) hbl
    ⟨news, by simpa using ownsRow_lower hown hbelow, hrows.1, hrows.2, fun b hb' => hb.sl.fresh (hbl b hb').1, hone⟩ (run_drawn P _ _ hr)
  refine ⟨σ, _, hf, v', _, by rw [← hb.len]; simp, by simp; rfl, fun k' e' sz' xs' heq => ?_⟩
  cases heq
  exact ⟨Nat.le_refl _, fun _ => ⟨by omega, .inl ⟨rfl, rfl, rfl⟩⟩⟩
theorem op_append_h_ (t u e : TypeId) (sz : Nat) (x y : Operand) (s k n : Nat) (xs ys : List (List D)) (hx : E x = .h s k 0 n) (hst : st[s]? = some (.row k e sz xs))
    (hA : ∀ w0 σ0 σ gh w val ty, Base w0 σ0 σ gh st w → RepA σ gh st val (E y) → AppendsAt P w t u ty e sz σ val ys n) :
    OpS P (.call { callee := .builtin .append, args := #[x, y], argTypes := #[t, u] }) E st (.h s (k + 1) 0 (n + ys.length)) (st.set s (.row (k + 1) e sz (xs.take n ++ ys))) := by
  intro o ho w0 σ0 σ gh ρ w hb hρ
  have h1 := hρ x (by simp [Op.operands, Call.operands])
  have h2 := hρ y (by simp [Op.operands, Call.operands])
  rw [hx] at h1
  obtain ⟨g, hgs, hR, A, c, hv⟩ := h_val hb hst h1
  obtain ⟨vals, hown, hsz, hval, huns, hone⟩ := hb.obj s _ _ hst hgs
  have hslt : s < st.length := (List.getElem?_eq_some_iff.1 hst).1
  have hn : n ≤ xs.length := by have := hR.1; omega
  have hown' : w.ownsRow w0.heap.size e sz (ρ x) n (vals.take (n * sz)) ∧ (ρ x).ownBlock = g.ownBlock := by
    obtain ⟨h0, ⟨a1, a2, a3⟩ | ⟨b, m, c2, a1, a2, ⟨a3, a4, _⟩ | a3⟩⟩ := hR
    · rw [a3, a2]
      refine ⟨?_, rfl⟩
      rw [← hown.1, List.take_length]; exact hown
    · omega
    · rw [a3]
      rcases hown.2 with ⟨e1, e2⟩ | ⟨b', cap, cur, e1, e2, e3, e4, e5, e6, e7⟩
      · rw [a1] at e1; cases e1
      · rw [a1] at e1
        cases e1
        refine ⟨⟨?_, .inr ⟨b, c2, cur, by simp, e2, e3, by omega, e5, e6, ?_⟩⟩, by simp [a1, Value.ownBlock]⟩
        · have := Nat.mul_le_mul_right sz hn
          rw [List.length_take, hown.1, Nat.min_eq_left this]
        · rw [← e7, List.take_take]
          congr 1
          have := Nat.mul_le_mul_right sz hn
          omega
  obtain ⟨hown', hblk⟩ := hown'
  obtain ⟨v', w', news, hr, hown2, hg, hat, hrows, hone2⟩ := hA w0 σ0 σ gh w _ o.type hb h2 _ _ _ hown' hb.below.size
  have : (execOp ρ o).run P w = .ok (.value v') w' := by
    simp [execOp, ho, resolve, invoke, builtin, hr]
  rw [this]
  have hbg := ownBlk hown
  have hbk := ownBlk hown2
  have keep : ∀ v a, RepA σ gh st v a → RepA σ (gh.set s v') (st.set s (.row (k + 1) e sz (xs.take n ++ ys))) v a := by
    intro v a ha
    have lookg : ∀ (t : Nat) g1, gh[t]? = some g1 → t ≠ s → (gh.set s v')[t]? = some g1 := fun t g1 h h' => by rw [List.getElem?_set, if_neg (fun e => h' e.symm)]; exact h
    have looks : ∀ (t : Nat) o1, st[t]? = some o1 → t ≠ s → (st.set s (.row (k + 1) e sz (xs.take n ++ ys)))[t]? = some o1 := fun t o1 h h' => by rw [List.getElem?_set, if_neg (fun e => h' e.symm)]; exact h
    have hgl : s < gh.length := by rw [hb.len]; exact hslt
    have notptr : ∀ b, g ≠ .pointer (some b) := fun b e => by rcases hown.2 with ⟨e1, _⟩ | ⟨_, _, _, e1, _⟩ <;> rw [e] at e1 <;> cases e1
    have notmap : ∀ b, g ≠ .map (some b) := fun b e => by rcases hown.2 with ⟨e1, _⟩ | ⟨_, _, _, e1, _⟩ <;> rw [e] at e1 <;> cases e1
    cases a with
    | v x => exact ha
    | ptr t off =>
      obtain ⟨b, a1, a2⟩ := ha
      refine ⟨b, lookg _ _ a1 (fun e => ?_), a2⟩
      subst e; rw [hgs] at a1; cases a1; exact notptr _ rfl
    | h t k2 lo2 n2 =>
      obtain ⟨g1, o1, a1, a2, a3⟩ := ha
      by_cases et : t = s
      · subst et
        rw [hst] at a2
        cases a2
        refine ⟨v', _, by simp [hgl], by simp [hslt]; rfl, fun k' e' sz' xs' heq => ?_⟩
        cases heq
        have := (a3 _ _ _ _ rfl).1
        exact ⟨by omega, fun e => by omega⟩
      · exact ⟨g1, o1, lookg _ _ a1 et, looks _ _ a2 et, a3⟩
    | ep t k2 i2 off2 =>
      obtain ⟨g1, o1, a1, a2, a3⟩ := ha
      by_cases et : t = s
      · subst et
        rw [hst] at a2
        cases a2
        refine ⟨v', _, by simp [hgl], by simp [hslt]; rfl, fun k' e' sz' xs' heq => ?_⟩
        cases heq
        have := (a3 _ _ _ _ rfl).1
        exact ⟨by omega, fun e => by omega⟩
      · exact ⟨g1, o1, lookg _ _ a1 et, looks _ _ a2 et, a3⟩
    | omap t =>
      obtain ⟨a1, r, a2⟩ := ha
      refine ⟨lookg _ _ a1 (fun e => ?_), r, a2⟩
      subst e; rw [hgs] at a1; cases a1; exact notmap _ a2
    | tup vs => exact ha
    | bs t n2 =>
      obtain ⟨b, c2, a1, a2⟩ := ha
      refine ⟨b, c2, lookg _ _ a1 (fun e => ?_), a2⟩
      subst e; rw [hgs] at a1; cases a1; exact notptr _ rfl
    | clo f caps =>
      obtain ⟨us, a1, a2, a3⟩ := ha
      refine ⟨us, a1, a2, fun i u t hu ht' => ?_⟩
      obtain ⟨b1, b, b2⟩ := a3 i u t hu ht'
      refine ⟨lookg _ _ b1 (fun e => ?_), b, b2⟩
      subst e; rw [hgs] at b1; cases b1; exact notptr _ b2
    | pkg cs =>
      obtain ⟨us, a1, a2, a3⟩ := ha
      refine ⟨us, a1, a2, fun i u c hu hc => (a3 i u c hu hc).map (fun s2 e2 e3 ⟨r, e4⟩ => ?_) ⟨fun _ _ _ h => h, fun _ _ h => h⟩⟩
      refine lookg _ _ e3 (fun e => ?_)
      subst e; rw [hgs] at e3; cases e3; exact notmap _ e4
    | junk => trivial
  have hlen : (xs.take n ++ ys).length = n + ys.length := by simp; omega
  have hf := hb.turn (w' := w') hst hgs (by simp) (by rw [hbg, ← hblk]; exact hg) v' (.row (k + 1) e sz (xs.take n ++ ys)) (fun b hb' => ?_) ?_ keep (run_drawn P _ _ hr)
  · refine ⟨σ, _, hf, v', _, by simp [hb.len, hslt], by simp [hslt]; rfl, fun k' e' sz' xs' heq => ?_⟩
    cases heq
    exact ⟨Nat.le_refl _, fun _ => ⟨by omega, .inl ⟨rfl, hlen.symm, rfl⟩⟩⟩
  · rw [hbk] at hb'
    rcases hat with h | h
    · left; rw [hbg, ← hblk, ← h]; exact hb'
    · right
      rw [h] at hb'
      cases hb'
      exact ⟨Nat.le_refl _, (hown2.lt _ h).2⟩
  · refine ⟨vals.take (n * sz) ++ news, by rw [hlen]; exact hown2, ?_, ?_, fun b hb' => ?_, ?_⟩
    · exact ((RepRows.take ⟨hsz, hval⟩ n).append (by rw [hown'.1, List.length_take, Nat.min_eq_left hn]) hrows).1
    · exact ((RepRows.take ⟨hsz, hval⟩ n).append (by rw [hown'.1, List.length_take, Nat.min_eq_left hn]) hrows).2
    · rw [hbk] at hb'
      rcases hat with h | h
      · exact huns b (by rw [hbg, ← hblk, ← h]; exact hb')
      · rw [h] at hb'; cases hb'; exact hb.sl.fresh (Nat.le_refl _)
    · intro v hv'
      rcases List.mem_append.1 hv' with h | h
      · exact hone v (List.mem_of_mem_take h)
      · exact hone2 v h
theorem op_append_nils (t e : TypeId) (sz by_ : Nat) (x y : Operand) (ys : List (List D)) (ht : appT P t = some (e, sz, by_)) (hx : E x = .nils) (hy : Src st (E y) sz ys)
    (hbound : ys.length * by_ ≤ 140737488355328) (hmax : ys.length ≤ maxLen) :
    OpS P (.call { callee := .builtin .append, args := #[x, y], argTypes := #[t, t] }) E st (.h st.length 0 0 ys.length) (st ++ [.row 0 e sz ys]) :=
  op_append_nils_ t t e sz x y ys hx fun w0 σ0 σ gh w val ty hb h2 base v vals hown hbase => run_append_src (P := P) (ty := ty) hb ht hown h2 hy (by simpa using hbound) (by simpa using hmax) hbase
theorem op_append_h (t e : TypeId) (sz by_ : Nat) (x y : Operand) (s k n : Nat) (xs ys : List (List D)) (ht : appT P t = some (e, sz, by_)) (hx : E x = .h s k 0 n) (hst : st[s]? = some (.row k e sz xs)) (hy : Src st (E y) sz ys)
    (hbound : (n + ys.length) * by_ ≤ 140737488355328) (hmax : n + ys.length ≤ maxLen) :
    OpS P (.call { callee := .builtin .append, args := #[x, y], argTypes := #[t, t] }) E st (.h s (k + 1) 0 (n + ys.length)) (st.set s (.row (k + 1) e sz (xs.take n ++ ys))) :=
  op_append_h_ t t e sz x y s k n xs ys hx hst fun w0 σ0 σ gh w val ty hb h2 base v vals hown hbase => run_append_src (P := P) (ty := ty) hb ht hown h2 hy hbound hmax hbase
end
end Go.Proofs.Nw.K
end
