/- Bundle 5: NwX8, NwX9, NwK21, NwK28, NwV1, NwK19, NwK22, NwV2, NwK24, NwK25, NwV3, NwK30, NwK31, NwK32. -/
import Derived.Test.YtbooikopklijdaaGreatDoorNwG4
import Derived.ChangeArms
import Derived.WideShapes
import Derived.Laws.MakeOwn
import Derived.WideKeyRuns
set_option linter.constructorNameAsVariable false
set_option linter.unusedVariables false
set_option linter.unusedSimpArgs false
set_option linter.unusedSectionVars false
section
/- X8: append; texts to bytes and back. -/
open Go Go.RowKit
namespace Go.Proofs.Nw.X
open Go.Proofs.Nw.K
structure SrcOk (P : Program) (w : World) (u : TypeId) (sz : Nat) (y : Value) (m : Nat) (news : List Value) : Prop where
  ty : (∃ e, P.underlying u = some (.slice e)) ∨ P.underlying u = some .string
  len : ∀ w', (Builtin.lenOf y).run P w' = .ok m w'
  cells : ∀ w' : World, w'.heap = w.heap → (Builtin.firstCells sz m y).run P w' = .ok news.toArray w'
  hl : news.length = m * sz
  one : ∀ v ∈ news, v.oneCell' = true
section
variable {P : Program} {w : World} {t u ty e : TypeId} {i : TypeInfo} {z : Value} {sz m : Nat} {y : Value} {news : List Value}
theorem run_app_room (S : SrcOk P w u sz y m news) (ht : P.underlying t = some (.slice e)) (hi : P.info? e = some i) (hs : i.size = sz) {a : Addr} {sLen sCap : Nat} {w' : World} (hroom : sLen + m ≤ sCap)
    (hst : (storeCells (a.add (sLen * sz)) news).run P w = .ok () w') : (Builtin.append_ #[t, u] ty #[.slice (some a) sLen sCap, y]).run P w = .ok (.slice (some a) (sLen + m) sCap) w' := by
  have hc := S.cells w rfl
  rcases S.ty with ⟨e', hu⟩ | hu <;> simp [Builtin.append_, run_underlying ht, run_underlying hu, sizeOf, typeInfo, hi, hs, S.len, hroom, hc, hst]
theorem run_app_nil0 (S : SrcOk P w u sz y 0 news) (ht : P.underlying t = some (.slice e)) (hi : P.info? e = some i) (hs : i.size = sz) {A : Option Addr} {sLen sCap : Nat} (hle : sLen ≤ sCap) :
    (Builtin.append_ #[t, u] ty #[.slice A sLen sCap, y]).run P w = .ok (.slice A sLen sCap) w := by
  have hc := S.cells w rfl
  have : news = [] := List.eq_nil_of_length_eq_zero (by have := S.hl; omega)
  subst this
  rcases S.ty with ⟨e', hu⟩ | hu <;> cases A <;> simp [Builtin.append_, run_underlying ht, run_underlying hu, sizeOf, typeInfo, hi, hs, S.len, hle, hc, storeCells]
theorem run_app_grow (S : SrcOk P w u sz y m news) (ht : P.underlying t = some (.slice e)) (hi : P.info? e = some i) (hz : i.zero = some z) (hs : i.size = sz) {A : Option Addr} {sLen sCap : Nat} {olds : List Value} (hlo : olds.length = sLen * sz)
    (holds : olds = [] ∨ ∃ a, A = some a ∧ ∀ (j : Nat) v, olds[j]? = some v → w.cell? (a.add j) = some v) (h0 : sLen = 0 → olds = [])
    (hg : sCap < sLen + m) (h63 : sLen + m ≤ 9223372036854775807) (hfit : Builtin.nextslicecap (sLen + m) sCap * i.bytes ≤ 281474976710656) :
    (Builtin.append_ #[t, u] ty #[.slice A sLen sCap, y]).run P w = .ok (.slice (some ⟨w.heap.size, 0, none⟩) (sLen + m) (grownCap w (sLen + m) sCap e))
      (w.drew.alloc (.cells (olds.toArray ++ news.toArray ++ Builtin.zeroCells z.cells (grownCap w (sLen + m) sCap e - (sLen + m))) e)) := by
  have hn : ¬ (sLen + m ≤ sCap) := by omega
  have h63' : ¬ (9223372036854775807 < ((sLen : Int) + (m : Int))) := by omega
  have h48' : ¬ (281474976710656 < Builtin.nextslicecap (sLen + m) sCap * i.bytes) := by omega
  have hc := S.cells w.drew rfl
  have hfo : (Builtin.firstCells sz sLen (.slice A sLen sCap)).run P w.drew = .ok olds.toArray w.drew := by
    rcases holds with h | ⟨a, rfl, h⟩
    · subst h
      have e0 : sLen * sz = 0 := by simpa using hlo.symm
      cases A with
      | none => simp [Builtin.firstCells]
      | some a => simp [Builtin.firstCells, e0, loadCells, loadCellsFrom]
    · exact run_firstCells_some (P := P) w.drew sz sLen a sLen sCap olds hlo (by simpa using h)
  rcases S.ty with ⟨e', hu⟩ | hu <;>
    (simp [Builtin.append_, run_underlying ht, run_underlying hu, sizeOf, typeInfo, zeroValue, hi, hz, hs, S.len, hn, h63', h48', Question.forced, hc, hfo, newRow, grownCap]
     congr 2
     apply Array.ext'
     simp)
end
noncomputable def srcK (T : Tab) (u : TypeId) (y : V) (sz : Nat) (h : H) (kk : Nat → List V → R) : R :=
  match T.kd u with
  | .slice _ => (match y with
    | .ns => kk 0 []
    | .sl o _ off m => (match hget o h with
      | some (.cs _ _ xs) => cond (Nat.beq (lenL (takeL (m * sz) (dropL off xs))) (m * sz)) (kk m (takeL (m * sz) (dropL off xs))) none
      | _ => none)
    | _ => none)
  | _ => none
noncomputable def srcB (T : Tab) (u : TypeId) (y : V) (h : H) (kk : Nat → Nat → R) : R :=
  match T.kd u, y with
  | .str, .s l a => kk l a
  | .slice _, .ns => kk 0 0
  | .slice _, .sl o _ off m => (match hget o h with
    | some (.bs _ _ l x) => cond (Nat.ble (off + m) l) (kk m (x / 256 ^ (l - (off + m)) % 256 ^ m)) none
    | _ => none)
  | _, _ => none
section
variable {P : Program} {T : Tab} (hT : TabOk P T) {E : Operand → V} {h : H} {n : Id} {k : KV}
include hT in
theorem srcK_ok {u : TypeId} {y : V} {sz : Nat} {kk : Nat → List V → R} {r : V} (hr : srcK T u y sz h kk = some r) : ∃ m ys, kk m ys = some r ∧ ys.length = m * sz ∧ ∀ w0 ι w v, HR w0 ι h n w → RV ι y v →
    ∃ news, SrcOk P w u sz v m news ∧ RVs ι ys news := by
  unfold srcK at hr
  split at hr
  · rename_i e hk
    have hu := hT.kslice _ _ hk
    split at hr
    · refine ⟨0, [], hr, by simp, fun w0 ι w v hb hv => ⟨[], ⟨.inl ⟨_, hu⟩, ?_, ?_, by simp, by simp⟩, rfl⟩⟩
      · have hv : v = _ := hv; subst hv; intro w'; rfl
      · have hv : v = _ := hv; subst hv; intro w' _; simp [Builtin.firstCells]
    · rename_i o sz' off m
      split at hr
      · rename_i fz xs hg
        rw [takeL_eq, dropL_eq, lenL_eq, beq_eq] at hr
        by_cases hc : ((xs.drop off).take (m * sz)).length = m * sz
        · simp only [hc, decide_true, cond_true] at hr
          refine ⟨m, _, hr, hc, fun w0 ι w v hb hv => ?_⟩
          obtain ⟨pl, c, e1, h2, h3, hv⟩ := hv
          obtain ⟨vals, e', fr, g1, g2, g3, g4, g5⟩ := hb.obj _ _ _ e1 hg
          have hle : off + m * sz ≤ xs.length ∨ m * sz = 0 := by simp at hc; omega
          have hnews : ∀ (j : Nat) x, ((vals.toList.drop (pl.m + off)).take (m * sz))[j]? = some x → w.cell? ((⟨pl.b, pl.m + off, none⟩ : Addr).add j) = some x := fun j x hx => by
            rw [List.getElem?_take] at hx
            split at hx
            · rw [K.add_lit, cell_of_row w _ _ vals e' fr g1]; simpa using hx
            · cases hx
          have hrel : RVs ι ((xs.drop off).take (m * sz)) ((vals.toList.drop (pl.m + off)).take (m * sz)) := by
            refine RVs_iff.2 ⟨by simp; omega, fun i x hx => ?_⟩
            have hi : i < m * sz := by have := (List.getElem?_eq_some_iff.1 hx).1; omega
            rw [List.getElem?_take_of_lt hi, List.getElem?_drop] at hx ⊢
            obtain ⟨u', a1, a2, _⟩ := g4 _ x hx
            exact ⟨u', by rw [Array.getElem?_toList, ← a1, Nat.add_assoc], a2⟩
          have hone : ∀ x ∈ (vals.toList.drop (pl.m + off)).take (m * sz), x.oneCell' = true := fun x hx => by
            obtain ⟨i, hi, rfl⟩ := List.getElem_of_mem hx
            have hl := hrel.length
            have hi2 : i < m * sz := by simp at hi; omega
            have hget : ((xs.drop off).take (m * sz))[i]? = some (((xs.drop off).take (m * sz))[i]'(by omega)) := List.getElem?_eq_getElem _
            have hget' := hget
            rw [List.getElem?_take_of_lt hi2, List.getElem?_drop] at hget'
            obtain ⟨u', a1, a2, a3⟩ := g4 _ _ hget'
            have e3 : ((vals.toList.drop (pl.m + off)).take (m * sz))[i]? = some u' := by
              rw [List.getElem?_take_of_lt hi2, List.getElem?_drop, Array.getElem?_toList, ← a1, Nat.add_assoc]
            rw [List.getElem?_eq_getElem hi] at e3
            cases e3; exact a3
          have hlen : ((vals.toList.drop (pl.m + off)).take (m * sz)).length = m * sz := by rw [hrel.length]; exact hc
          refine ⟨_, ⟨.inl ⟨_, hu⟩, fun w' => ?_, fun w' hw' => ?_, hlen, hone⟩, hrel⟩
          · rcases hv with ⟨_, _, rfl⟩ | ⟨hc0, a, rfl⟩
            · rfl
            · have : m = 0 := by omega
              subst this; rfl
          · rcases hv with ⟨_, _, rfl⟩ | ⟨hc0, a, rfl⟩
            · refine run_firstCells_some (P := P) w' sz m _ m c _ hlen fun j x hx => ?_
              have := hnews j x hx
              simpa [World.cell?, hw'] using this
            · have : m = 0 := by omega
              subst this
              simp [Builtin.firstCells, loadCells, loadCellsFrom]
        · simp only [hc, decide_false, cond_false] at hr; cases hr
      · cases hr
    · cases hr
  · cases hr
def byteVs (bs : List UInt8) : List Value := bs.map fun b => .int .u8 (b.toNat : Int)
include hT in
theorem srcB_ok {u : TypeId} {y : V} {kk : Nat → Nat → R} {r : V} (hr : srcB T u y h kk = some r) : ∃ m x, kk m x = some r ∧ ∀ w0 ι w v, HR w0 ι h n w → RV ι y v →
    ∃ bs : List UInt8, SrcOk P w u 1 v m (byteVs bs) ∧ bs.length = m ∧ valB bs = x := by
  have hone : ∀ bs : List UInt8, ∀ v ∈ byteVs bs, v.oneCell' = true := fun bs v hv => by
    obtain ⟨b, _, rfl⟩ := List.mem_map.1 hv; rfl
  unfold srcB at hr
  split at hr
  · rename_i l a hk
    have hu := hT.kstr _ hk
    refine ⟨l, a, hr, fun w0 ι w v hb hv => ?_⟩
    obtain ⟨s, rfl, hs⟩ := hv
    refine ⟨s.data.toList, ⟨.inr hu, fun w' => by simp [Builtin.lenOf, hs.size], fun w' _ => ?_, by simp [byteVs, ← hs.1], hone _⟩, hs.1, hs.2⟩
    have := Lib.run_firstCells_string (P := P) w' 1 s
    rw [hs.size] at this
    rw [this]
    congr 1
  · rename_i e hk
    have hu := hT.kslice _ _ hk
    refine ⟨0, 0, hr, fun w0 ι w v hb hv => ⟨[], ⟨.inl ⟨_, hu⟩, ?_, ?_, by simp [byteVs], hone _⟩, rfl, rfl⟩⟩
    · have hv : v = _ := hv; subst hv; intro w'; rfl
    · have hv : v = _ := hv; subst hv; intro w' _; simp [Builtin.firstCells, byteVs]
  · rename_i e o sz' off m hk
    have hu := hT.kslice _ _ hk
    split at hr
    · rename_i fz l x hg
      rw [ble_eq] at hr
      by_cases hc : off + m ≤ l
      · simp only [hc, decide_true, cond_true] at hr
        refine ⟨m, _, hr, fun w0 ι w v hb hv => ?_⟩
        obtain ⟨pl, c, e1, h2, h3, hv⟩ := hv
        obtain ⟨vals, e', fr, bs, g1, g2, g3, g4, g5, g6, g7⟩ := hb.obj _ _ _ e1 hg
        have hbl : ((bs.take (off + m)).drop off).length = m := by simp; omega
        have hcell : ∀ (j : Nat) x, (byteVs ((bs.take (off + m)).drop off))[j]? = some x → w.cell? ((⟨pl.b, pl.m + off, none⟩ : Addr).add j) = some x := fun j x hx => by
          simp only [byteVs, List.getElem?_map, Option.map_eq_some_iff] at hx
          obtain ⟨b, hb', rfl⟩ := hx
          rw [List.getElem?_drop, List.getElem?_take] at hb'
          split at hb'
          · rw [K.add_lit, cell_of_row w _ _ vals e' fr g1, Nat.add_assoc]; exact g6 _ _ hb'
          · cases hb'
        refine ⟨(bs.take (off + m)).drop off, ⟨.inl ⟨_, hu⟩, fun w' => ?_, fun w' hw' => ?_, by simp [byteVs]; omega, hone _⟩, hbl, ?_⟩
        · rcases hv with ⟨_, _, rfl⟩ | ⟨hc0, a, rfl⟩
          · rfl
          · have : m = 0 := by omega
            subst this; rfl
        · rcases hv with ⟨_, _, rfl⟩ | ⟨hc0, a, rfl⟩
          · refine run_firstCells_some (P := P) w' 1 m _ m c _ (by simp [byteVs]; omega) fun j x hx => ?_
            have := hcell j x hx
            simpa [World.cell?, hw'] using this
          · have : m = 0 := by omega
            subst this
            have : (bs.take (off + 0)).drop off = [] := by simp
            simp [Builtin.firstCells, loadCells, loadCellsFrom, byteVs]
        · rw [valB_drop _ _ (by simp; omega), valB_take _ _ (by omega), g4, g5]
          congr 2
          simp; omega
      · simp only [hc, decide_false, cond_false] at hr; cases hr
    · cases hr
  · cases hr
noncomputable def evAppK (sz : Nat) (m : Nat) (ys : List V) (x : V) (h : H) (n : Id) (k : KV) : R :=
  match x with
  | .ns => cond (Nat.beq m 0) (k .ns h n) (match nxt n with | some n' => k (.sl n sz 0 m) (hset (.cs 0 0 ys) n h) n' | none => none)
  | .sl o sz' off len => cond (Nat.beq sz sz') (cond (Nat.beq m 0) (k x h n) (match hget o h with
    | some (.cs ty fz xs) => cond (Nat.beq (lenL (takeL (len * sz) (dropL off xs))) (len * sz)) (cond (Nat.ble fz (off + len * sz)) (cond (Nat.ble (len + m) 16777216) (match nxt n with
      | some n' => fN (len + m) fun q => k (.sl n sz 0 q) (hset (.cs 0 (fz - off) (appL (takeL (len * sz) (dropL off xs)) ys)) n (hset .dead o h)) n'
      | none => none) none) none) none
    | _ => none)) none
  | _ => none
noncomputable def evAppB (e m ys : Nat) (x : V) (h : H) (n : Id) (k : KV) : R :=
  match x with
  | .ns => cond (Nat.beq m 0) (k .ns h n) (match nxt n with | some n' => fN ys fun ys => k (.sl n 1 0 m) (hset (.bs (Nat.succ e) 0 m ys) n h) n' | none => none)
  | .sl o sz' off len => cond (Nat.beq sz' 1) (cond (Nat.beq m 0) (k x h n) (match hget o h with
    | some (.bs ty fz l b) => cond (Nat.ble (off + len) l) (cond (Nat.ble fz (off + len)) (cond (Nat.ble (len + m) 16777216) (match nxt n with
      | some n' => fN (len + m) fun q => fN (b / 256 ^ (l - (off + len)) % 256 ^ len * 256 ^ m + ys) fun b' => k (.sl n 1 0 q) (hset (.bs (cond (Nat.beq off 0) (cond (Nat.beq ty (Nat.succ e)) (Nat.succ e) 0) 0) (fz - off) q b') n (hset .dead o h)) n'
      | none => none) none) none) none
    | _ => none)) none
  | _ => none
noncomputable def evApp (T : Tab) (t u : TypeId) (x y : V) (h : H) (n : Id) (k : KV) : R :=
  match T.bb t with
  | some e => srcB T u y h fun m ys => cond (Nat.ble m 16777216) (evAppB e m ys x h n k) none
  | none => match T.ap t with
    | some (_, sz, by_) => cond (Nat.ble by_ 1048576) (srcK T u y sz h fun m ys => cond (Nat.ble m 16777216) (evAppK sz m ys x h n k) none) none
    | none => none
theorem drop_toList (olds news : List Value) (rest : Array Value) : (olds.toArray ++ news.toArray ++ rest).toList = olds ++ news ++ rest.toList := by simp
def AppRes (P : Program) (e e' : TypeId) (fr : Nat × Nat) (t u ty : TypeId) (x y : Value) (w : World) (pl : Pl) (vals : Array Value) (news : List Value) (off fz len m sz : Nat) : Prop :=
  ∃ (v : Value) (w' : World) (pl' : Pl) (vals' : Array Value) (e'' : TypeId) (fr' : Nat × Nat), (Builtin.append_ #[t, u] ty #[x, y]).run P w = .ok v w' ∧ w.grownBy w' (some pl.b) ∧ w.drawn ≤ w'.drawn ∧ (pl'.b = pl.b ∨ pl'.b = w.heap.size) ∧ pl'.b < w'.heap.size ∧
      w'.heap[pl'.b]? = some (.cells vals' e'' fr') ∧ vals'.size = pl'.size ∧ pl'.m + (len + m) * sz ≤ pl'.size ∧ (∀ j, j < len * sz → vals'[pl'.m + j]? = vals[pl.m + off + j]?) ∧ (∀ j, j < m * sz → vals'[pl'.m + len * sz + j]? = news[j]?) ∧
      (∀ off', off' < vals'.size → pl'.m + (fz - off) ≤ off' → ¬ (fr'.1 ≤ off' ∧ off' < fr'.2)) ∧
      (∃ c, len + m ≤ c ∧ c ≤ maxLen ∧ 0 < c ∧ pl'.m + 0 + c * sz ≤ pl'.size ∧ v = .slice (some ⟨pl'.b, pl'.m + 0, none⟩) (len + m) c) ∧ ((e'' = e' ∧ pl'.m = pl.m + off ∧ fr' = fr) ∨ (e'' = e ∧ pl'.m = 0 ∧ fr' = (0, 0)))
theorem app_run {w0 : Fx} {ι : Io} {w : World} {t u ty e : TypeId} {i : TypeInfo} {z : Value} {sz m : Nat} {y : Value} {news : List Value} (S : SrcOk P w u sz y m news) (ht : P.underlying t = some (.slice e)) (hi : P.info? e = some i) (hz : i.zero = some z) (hs : i.size = sz) (hzs : z.cells.size = sz)
    (hby : i.bytes ≤ 1048576) (hm : 0 < m) {o : Id} {off len : Nat} {x : Value} (hx : RV ι (.sl o sz off len) x) (hb : HR w0 ι h n w) (hlm : len + m ≤ 16777216)
    {pl : Pl} (ho : ι o = some pl) {vals : Array Value} {e' : TypeId} {fr : Nat × Nat} (g1 : w.heap[pl.b]? = some (.cells vals e' fr)) (g2 : vals.size = pl.size) {fz : Nat} (hfz : fz ≤ off + len * sz) (g5 : ∀ off, off < vals.size → pl.m + fz ≤ off → ¬ (fr.1 ≤ off ∧ off < fr.2))
    (hin : len * sz = 0 ∨ pl.m + off + len * sz ≤ pl.size) :
    AppRes P e e' fr t u ty x y w pl vals news off fz len m sz := by
  obtain ⟨plx, c, e1, h2, h3, hv⟩ := hx
  rw [ho] at e1
  cases e1
  have hlt : pl.b < w.heap.size := (Array.getElem?_eq_some_iff.1 g1).1
  have grow : ∀ A cap, x = .slice A len cap → cap < len + m → (len = 0 ∨ A = some ⟨pl.b, pl.m + off, none⟩) → AppRes P e e' fr t u ty x y w pl vals news off fz len m sz := by
    intro A cap hxv hcap hA
    have hlo : ((vals.toList.drop (pl.m + off)).take (len * sz)).length = len * sz := by simp; omega
    have hbytes : (len + m) * i.bytes ≤ 140737488355328 := Nat.le_trans (Nat.mul_le_mul hlm hby) (by decide)
    have hrun := run_app_grow (P := P) (w := w) (ty := ty) S ht hi hz hs (A := A) (sLen := len) (sCap := cap) hlo (by
        rcases hA with h | h
        · left; subst h; simp
        · right
          refine ⟨_, h, fun j v hv => ?_⟩
          rw [List.getElem?_take] at hv
          split at hv
          · rw [K.add_lit, cell_of_row w _ _ vals e' fr g1]; simpa using hv
          · cases hv) (fun h => by subst h; simp) hcap (by omega) (growslice_fits hcap hbytes)
    rw [← hxv] at hrun
    have hge := grownCap_ge w (len + m) cap e
    have hcm : grownCap w (len + m) cap e ≤ maxLen := grownCap_le_maxLen w (len + m) cap e (by simp only [maxLen]; omega)
    have hsz0 := S.hl
    have e3 : (len + m) * sz + (grownCap w (len + m) cap e - (len + m)) * sz = grownCap w (len + m) cap e * sz := by rw [← Nat.add_mul]; congr 1; omega
    have e4 : (len + m) * sz = len * sz + m * sz := Nat.add_mul _ _ _
    refine ⟨_, _, ⟨w.heap.size, 0, grownCap w (len + m) cap e * sz⟩, _, e, (0, 0), hrun, ⟨rfl, rfl, rfl, by simp, fun k hk _ => Below.heap_alloc w.drew _ k hk⟩, Nat.le_succ _, .inr rfl, by simp, heap_alloc_new w.drew _, ?_, ?_, fun j hj => ?_, fun j hj => ?_, fun off' _ _ => by show ¬ (0 ≤ off' ∧ off' < 0); omega, ⟨grownCap w (len + m) cap e, hge, hcm, (by omega), (by simp), (by simp)⟩, .inr ⟨rfl, rfl, rfl⟩⟩
    · simp only [Array.size_append, List.size_toArray, size_zeroCells, hzs, hlo, hsz0]
      rw [← e4, e3]
    · have := Nat.mul_le_mul_right sz hge
      simp; exact this
    · rw [← Array.getElem?_toList, drop_toList, Nat.zero_add, List.append_assoc, List.getElem?_append_left (by omega), List.getElem?_take_of_lt hj, List.getElem?_drop, Array.getElem?_toList]
    · rw [← Array.getElem?_toList, drop_toList, Nat.zero_add, List.append_assoc, List.getElem?_append_right (by omega), hlo, show len * sz + j - len * sz = j by omega, List.getElem?_append_left (by omega)]
  rcases hv with ⟨h5, h6, h7⟩ | ⟨h5, a, h7⟩
  · by_cases hroom : len + m ≤ c
    · have e4 : (len + m) * sz = len * sz + m * sz := Nat.add_mul _ _ _
      have e5 := Nat.mul_le_mul_right sz hroom
      have hnl := S.hl
      obtain ⟨w', cur', r1, r2, r3, r4, r5, r6, r7⟩ := run_storeCells (P := P) (b := pl.b) (o := pl.m + off + len * sz) (e := e') (fr := fr) news 0 vals w g1 (by omega) (fun off' b1 b2 => g5 off' (by omega) (by omega)) S.one
      have hrun := run_app_room (P := P) (w := w) (ty := ty) S ht hi hs (a := ⟨pl.b, pl.m + off, none⟩) (sLen := len) (sCap := c) hroom (w' := w') (by rw [K.add_lit]; exact r1)
      rw [← h7] at hrun
      refine ⟨_, w', ⟨pl.b, pl.m + off, pl.size⟩, cur', e', fr, hrun, r2, r3, .inl rfl, by show pl.b < _; omega, r5, by rw [r6]; exact g2, by show pl.m + off + _ ≤ pl.size; omega, fun j hj => ?_, fun j hj => ?_, fun off' b1 b2 => ?_, ⟨c, hroom, h3, (by omega), (by show pl.m + off + 0 + _ ≤ pl.size; omega), (by simp)⟩, .inl ⟨rfl, rfl, rfl⟩⟩
      · show cur'[pl.m + off + j]? = _
        rw [r7, if_neg (by omega)]
      · show cur'[pl.m + off + len * sz + j]? = _
        rw [r7, if_pos (by omega)]; congr 1; omega
      · rw [r6] at b1
        have b2 : pl.m + off + (fz - off) ≤ off' := b2
        exact g5 off' b1 (by omega)
    · exact grow _ _ h7 (by omega) (.inr rfl)
  · have : len = 0 := by omega
    subst this
    exact grow _ _ h7 (by omega) (.inl rfl)
theorem app_run0 {w0 : Fx} {ι : Io} {w : World} {t u ty e : TypeId} {i : TypeInfo} {z : Value} {sz m : Nat} {y : Value} {news : List Value} (S : SrcOk P w u sz y m news) (ht : P.underlying t = some (.slice e)) (hi : P.info? e = some i) (hz : i.zero = some z) (hs : i.size = sz) (hzs : z.cells.size = sz)
    (hby : i.bytes ≤ 1048576) (hm : 0 < m) (hb : HR w0 ι h n w) (hlm : m ≤ 16777216) :
    ∃ (w' : World) (vals' : Array Value), (Builtin.append_ #[t, u] ty #[.slice none 0 0, y]).run P w = .ok (.slice (some ⟨w.heap.size, 0, none⟩) m (grownCap w m 0 e)) w' ∧ w.grownBy w' none ∧ w.drawn ≤ w'.drawn ∧ w.heap.size < w'.heap.size ∧
      w'.heap[w.heap.size]? = some (.cells vals' e (0, 0)) ∧ vals'.size = grownCap w m 0 e * sz ∧ vals'.toList.take (m * sz) = news ∧ m ≤ grownCap w m 0 e ∧ grownCap w m 0 e ≤ maxLen := by
  have hbytes : m * i.bytes ≤ 140737488355328 := Nat.le_trans (Nat.mul_le_mul hlm hby) (by decide)
  have hrun := run_app_grow (P := P) (w := w) (ty := ty) S ht hi hz hs (A := none) (sLen := 0) (sCap := 0) (olds := []) (by simp) (.inl rfl) (fun _ => rfl) (by omega) (by omega) (growslice_fits (by omega) (by simpa using hbytes))
  simp only [Nat.zero_add] at hrun
  have hge := grownCap_ge w m 0 e
  have hcm : grownCap w m 0 e ≤ maxLen := grownCap_le_maxLen w m 0 e (by simp only [maxLen]; omega)
  have hsz0 := S.hl
  refine ⟨_, _, hrun, ⟨rfl, rfl, rfl, by simp, fun k hk _ => Below.heap_alloc w.drew _ k hk⟩, Nat.le_succ _, by simp, heap_alloc_new w.drew _, ?_, ?_, hge, hcm⟩
  · simp only [Array.size_append, List.size_toArray, size_zeroCells, hzs, hsz0, List.length_nil, Nat.zero_add]
    rw [← Nat.add_mul]; congr 1; omega
  · rw [drop_toList, List.nil_append, ← hsz0, List.take_left]
end
end Go.Proofs.Nw.X
end
section
/- X9: append as an operation; texts to bytes and back. -/
open Go Go.RowKit
namespace Go.Proofs.Nw.X
open Go.Proofs.Nw.K
section
variable {P : Program} {T : Tab} (hT : TabOk P T) {E : Operand → V} {h : H} {n : Id} {k : KV}
theorem app_exec {t u : TypeId} {x y : Operand} {o : Oper} (ho : o.op = .call { callee := .builtin .append, args := #[x, y], argTypes := #[t, u] }) {ρ : Operand → Value} {w w' : World} {v : Value}
    (hr : (Builtin.append_ #[t, u] o.type #[ρ x, ρ y]).run P w = .ok v w') : (execOp ρ o).run P w = .ok (.value v) w' := by
  simp [execOp, ho, resolve, invoke, builtin, hr]
include hT in
theorem app_ok (t u : TypeId) (x y : Operand) : Ob P (.call { callee := .builtin .append, args := #[x, y], argTypes := #[t, u] }) E h n k (evApp T t u (E x) (E y) h n k) := by
  have mx : x ∈ (Op.call { callee := .builtin .append, args := #[x, y], argTypes := #[t, u] }).operands := by simp [Op.operands, Call.operands]
  have my : y ∈ (Op.call { callee := .builtin .append, args := #[x, y], argTypes := #[t, u] }).operands := by simp [Op.operands, Call.operands]
  unfold evApp
  split
  ·
    rename_i e hbb
    obtain ⟨hu, i, hi, hz, hs, hby⟩ := byteT_spec (hT.bb _ _ hbb)
    intro r hr
    obtain ⟨m, ys, hr, hS⟩ := srcB_ok hT hr
    rw [ble_eq] at hr
    by_cases c0 : m ≤ 16777216
    case neg => simp only [c0, decide_false, cond_false] at hr; cases hr
    simp only [c0, decide_true, cond_true] at hr
    unfold evAppB at hr
    split at hr
    · rename_i hx
      rw [beq_eq] at hr
      by_cases c1 : m = 0
      · simp only [c1, decide_true, cond_true] at hr
        refine ⟨_, _, _, hr, fun o ho w0 ι ρ w hb hρ => ?_⟩
        have h1 := hρ x mx
        rw [hx] at h1
        have h1 : ρ x = _ := h1
        obtain ⟨bs, S, b1, b2⟩ := hS w0 ι w _ hb (hρ y my)
        subst c1
        rw [app_exec ho (by rw [h1]; exact run_app_nil0 S hu hi hs (Nat.le_refl _))]
        exact ⟨ι, Ext.refl _, hb, rfl⟩
      · simp only [c1, decide_false, cond_false] at hr
        split at hr
        · rename_i n' hn
          rw [fN_eq] at hr
          refine ⟨_, _, _, hr, fun o ho w0 ι ρ w hb hρ => ?_⟩
          have h1 := hρ x mx
          rw [hx] at h1
          have h1 : ρ x = _ := h1
          obtain ⟨bs, S, b1, b2⟩ := hS w0 ι w _ hb (hρ y my)
          obtain ⟨w', vals', r1, r2, r3, r4, r5, r6, r7, r8, r9⟩ := app_run0 (ty := o.type) S hu hi hz hs rfl (by omega) (by omega) hb c0
          rw [app_exec ho (by rw [h1]; exact r1)]
          refine ⟨_, hb.ext ⟨w.heap.size, 0, vals'.size⟩, hb.alloc hn r2 r3 _ _ rfl r4 ⟨vals', e, (0, 0), bs, r5, rfl, by show 0 + m ≤ vals'.size; omega, b1, b2, fun i b hib => ?_, fun off _ _ => (by show ¬ (0 ≤ off ∧ off < 0); omega), fun _ => ⟨rfl, rfl, rfl⟩⟩,
            ⟨w.heap.size, 0, vals'.size⟩, _, upI_same _ _ _, r8, r9, .inl ⟨by omega, by show 0 + 0 + _ * 1 ≤ vals'.size; omega, by simp⟩⟩
          have hi' : i < m := by have := (List.getElem?_eq_some_iff.1 hib).1; omega
          have : (vals'.toList.take (m * 1))[i]? = some (.int .u8 (b.toNat : Int)) := by rw [r7]; simp [byteVs, hib]
          rw [List.getElem?_take_of_lt (by omega)] at this
          simpa using this
        · cases hr
    · rename_i o' sz' off len hx
      rw [beq_eq, beq_eq] at hr
      by_cases cs : sz' = 1
      case neg => simp only [cs, decide_false, cond_false] at hr; cases hr
      subst cs
      simp only [decide_true, cond_true] at hr
      by_cases c1 : m = 0
      · simp only [c1, decide_true, cond_true] at hr
        refine ⟨_, _, _, hr, fun o ho w0 ι ρ w hb hρ => ?_⟩
        have h1 := hρ x mx
        obtain ⟨bs, S, b1, b2⟩ := hS w0 ι w _ hb (hρ y my)
        subst c1
        have h1' := h1
        rw [hx] at h1'
        obtain ⟨pl, c, _, h2, _, ⟨_, _, h3⟩ | ⟨h4, a, h3⟩⟩ := h1'
        · rw [app_exec ho (by rw [h3]; exact run_app_nil0 S hu hi hs h2)]
          exact ⟨ι, Ext.refl _, hb, by rw [← h3]; exact h1⟩
        · rw [app_exec ho (by rw [h3]; exact run_app_nil0 S hu hi hs (Nat.le_refl _))]
          exact ⟨ι, Ext.refl _, hb, by rw [← h3]; exact h1⟩
      · simp only [c1, decide_false, cond_false] at hr
        split at hr
        · rename_i ty fz l b hg
          rw [ble_eq, ble_eq, ble_eq] at hr
          by_cases c2 : off + len ≤ l
          case neg => simp only [c2, decide_false, cond_false] at hr; cases hr
          by_cases c3 : fz ≤ off + len
          case neg => simp only [c2, c3, decide_true, decide_false, cond_true, cond_false] at hr; cases hr
          by_cases c4 : len + m ≤ 16777216
          case neg => simp only [c2, c3, c4, decide_true, decide_false, cond_true, cond_false] at hr; cases hr
          simp only [c2, c3, c4, decide_true, cond_true] at hr
          split at hr
          · rename_i n' hn
            rw [fN_eq, fN_eq] at hr
            refine ⟨_, _, _, hr, fun o ho w0 ι ρ w hb hρ => ?_⟩
            have h1 := hρ x mx
            rw [hx] at h1
            obtain ⟨bs, S, b1, b2⟩ := hS w0 ι w _ hb (hρ y my)
            obtain ⟨pl, c, e1, _⟩ := id h1
            obtain ⟨vals, e', fr, bo, g1, g2, g3, g4, g5, g6, g7, g8⟩ := hb.obj _ _ _ e1 hg
            obtain ⟨v, w', pl', vals', e'', fr', r1, r2, r3, r4, r5, r6, r7, r8, r9, r10, r11, ⟨cc, d1, d2, d3, d4, d5⟩, hor⟩ := app_run (ty := o.type) S hu hi hz hs rfl (by omega) (by omega) h1 hb c4 e1 g1 g2 (fz := fz) (by omega) g7 (.inr (by omega))
            rw [app_exec ho r1]
            have hx2 : OOk (upI ι n pl') w' pl' (.bs (cond (Nat.beq off 0) (cond (Nat.beq ty (Nat.succ e)) (Nat.succ e) 0) 0) (fz - off) (len + m) (b / 256 ^ (l - (off + len)) % 256 ^ len * 256 ^ m + ys)) := by
              have hbl : ((bo.take (off + len)).drop off).length = len := by simp; omega
              refine ⟨vals', e'', fr', (bo.take (off + len)).drop off ++ bs, r6, r7, by omega, by rw [List.length_append, hbl, b1], ?_, fun i c hic => ?_, r11, fun hty => ?_⟩
              · have e9 : (bo.take (off + len)).length - off = len := by simp; omega
                rw [valB_app, valB_drop _ _ (by simp; omega), valB_take _ _ (by omega), g4, g5, b1, b2, e9]
              · rw [List.getElem?_append] at hic
                split at hic
                · rename_i hlt
                  rw [r9 i (by omega)]
                  rw [List.getElem?_drop, List.getElem?_take] at hic
                  split at hic
                  · rw [Nat.add_assoc]; exact g6 _ _ hic
                  · cases hic
                · rename_i hge
                  rw [hbl] at hic hge
                  have hlt : i - len < m := by have := (List.getElem?_eq_some_iff.1 hic).1; omega
                  have := r10 (i - len) (by omega)
                  rw [show pl'.m + len * 1 + (i - len) = pl'.m + i by omega] at this
                  rw [this]; simp [byteVs, hic]
              · rw [beq_eq, beq_eq] at hty ⊢
                by_cases q1 : off = 0
                case neg => simp only [q1, decide_false, cond_false] at hty; exact absurd rfl hty
                by_cases q2 : ty = Nat.succ e
                case neg => simp only [q1, q2, decide_true, decide_false, cond_true, cond_false] at hty; exact absurd rfl hty
                simp only [q1, q2, decide_true, cond_true]
                rcases hor with ⟨z1, z2, z5⟩ | ⟨z1, z2, z5⟩
                · obtain ⟨z3, z4, z6⟩ := g8 (by rw [q2]; exact Nat.succ_ne_zero _)
                  exact ⟨by rw [z1, z3, q2], by rw [z2, z4, q1], by rw [z5]; exact z6⟩
                · exact ⟨by rw [z1], z2, by rw [z5]⟩
            exact ⟨_, hb.ext pl', hb.move hn e1 ⟨_, hg, by intro e; cases e⟩ r2 r3 pl' _ r4 r5 hx2, pl', cc, upI_same _ _ _, d1, d2, .inl ⟨d3, d4, d5⟩⟩
          · cases hr
        · cases hr
    · cases hr
  ·
    split
    · rename_i e sz by_ hap
      obtain ⟨hu, i, z, hi, hz, hs, hby, hzs, hpos⟩ := appT_spec (hT.ap _ _ hap)
      rw [ble_eq]
      refine ob_cond fun cb => ?_
      have cb := of_decide_eq_true cb
      intro r hr
      obtain ⟨m, ys, hr, hyl, hS⟩ := srcK_ok hT hr
      rw [ble_eq] at hr
      by_cases c0 : m ≤ 16777216
      case neg => simp only [c0, decide_false, cond_false] at hr; cases hr
      simp only [c0, decide_true, cond_true] at hr
      unfold evAppK at hr
      split at hr
      · rename_i hx
        rw [beq_eq] at hr
        by_cases c1 : m = 0
        · simp only [c1, decide_true, cond_true] at hr
          refine ⟨_, _, _, hr, fun o ho w0 ι ρ w hb hρ => ?_⟩
          have h1 := hρ x mx
          rw [hx] at h1
          have h1 : ρ x = _ := h1
          obtain ⟨news, S, hrel⟩ := hS w0 ι w _ hb (hρ y my)
          subst c1
          rw [app_exec ho (by rw [h1]; exact run_app_nil0 S hu hi hs (Nat.le_refl _))]
          exact ⟨ι, Ext.refl _, hb, rfl⟩
        · simp only [c1, decide_false, cond_false] at hr
          split at hr
          · rename_i n' hn
            refine ⟨_, _, _, hr, fun o ho w0 ι ρ w hb hρ => ?_⟩
            have h1 := hρ x mx
            rw [hx] at h1
            have h1 : ρ x = _ := h1
            obtain ⟨news, S, hrel⟩ := hS w0 ι w _ hb (hρ y my)
            obtain ⟨w', vals', r1, r2, r3, r4, r5, r6, r7, r8, r9⟩ := app_run0 (ty := o.type) S hu hi hz hs hzs (by omega) (by omega) hb c0
            rw [app_exec ho (by rw [h1]; exact r1)]
            have hle := Nat.mul_le_mul_right sz r8
            obtain ⟨h3, h4⟩ := new_cells hb hn vals' e (0, 0) 0 0 ys (fun h => absurd rfl h) (by rw [hyl, r7]; exact hrel) (by omega) (by rw [hyl, r7]; exact S.one) (fun off _ _ => by show ¬ (0 ≤ off ∧ off < 0); omega) r2 r3 r5
            exact ⟨_, h3, h4, ⟨w.heap.size, 0, vals'.size⟩, _, upI_same _ _ _, r8, r9, .inl ⟨by omega, by show 0 + 0 + _ ≤ vals'.size; omega, by simp⟩⟩
          · cases hr
      · rename_i o' sz' off len hx
        rw [beq_eq, beq_eq] at hr
        by_cases cs : sz = sz'
        case neg => simp only [cs, decide_false, cond_false] at hr; cases hr
        subst cs
        simp only [decide_true, cond_true] at hr
        by_cases c1 : m = 0
        · simp only [c1, decide_true, cond_true] at hr
          refine ⟨_, _, _, hr, fun o ho w0 ι ρ w hb hρ => ?_⟩
          have h1 := hρ x mx
          obtain ⟨news, S, hrel⟩ := hS w0 ι w _ hb (hρ y my)
          subst c1
          have h1' := h1
          rw [hx] at h1'
          obtain ⟨pl, c, _, h2, _, ⟨_, _, h3⟩ | ⟨h4, a, h3⟩⟩ := h1'
          · rw [app_exec ho (by rw [h3]; exact run_app_nil0 S hu hi hs h2)]
            exact ⟨ι, Ext.refl _, hb, by rw [← h3]; exact h1⟩
          · rw [app_exec ho (by rw [h3]; exact run_app_nil0 S hu hi hs (Nat.le_refl _))]
            exact ⟨ι, Ext.refl _, hb, by rw [← h3]; exact h1⟩
        · simp only [c1, decide_false, cond_false] at hr
          split at hr
          · rename_i fz xs hg
            rw [takeL_eq, dropL_eq, lenL_eq, beq_eq, ble_eq, ble_eq, appL_eq] at hr
            by_cases c2 : ((xs.drop off).take (len * sz)).length = len * sz
            case neg => simp only [c2, decide_false, cond_false] at hr; cases hr
            by_cases c3 : fz ≤ off + len * sz
            case neg => simp only [c2, c3, decide_true, decide_false, cond_true, cond_false] at hr; cases hr
            by_cases c4 : len + m ≤ 16777216
            case neg => simp only [c2, c3, c4, decide_true, decide_false, cond_true, cond_false] at hr; cases hr
            simp only [c2, c3, c4, decide_true, cond_true] at hr
            split at hr
            · rename_i n' hn
              rw [fN_eq] at hr
              refine ⟨_, _, _, hr, fun o ho w0 ι ρ w hb hρ => ?_⟩
              have h1 := hρ x mx
              rw [hx] at h1
              obtain ⟨news, S, hrel⟩ := hS w0 ι w _ hb (hρ y my)
              obtain ⟨pl, c, e1, _, _, hv⟩ := id h1
              obtain ⟨vals, e', fr, g1, g2, g3, g4, g5, _⟩ := hb.obj _ _ _ e1 hg
              have hin : len * sz = 0 ∨ pl.m + off + len * sz ≤ pl.size := by
                have hle : off + len * sz ≤ xs.length ∨ len * sz = 0 := by simp at c2; omega
                omega
              obtain ⟨v, w', pl', vals', e'', fr', r1, r2, r3, r4, r5, r6, r7, r8, r9, r10, r11, ⟨cc, d1, d2, d3, d4, d5⟩, hor⟩ := app_run (ty := o.type) S hu hi hz hs hzs (by omega) (by omega) h1 hb c4 e1 g1 g2 (fz := fz) c3 g5 hin
              rw [app_exec ho r1]
              have e4 : (len + m) * sz = len * sz + m * sz := Nat.add_mul _ _ _
              have hnl := S.hl
              have hx2 : OOk (upI ι n pl') w' pl' (.cs 0 (fz - off) ((xs.drop off).take (len * sz) ++ ys)) := by
                refine ⟨vals', e'', fr', r6, r7, by rw [List.length_append, c2, hyl]; omega, fun i y hy => ?_, r11, fun h => absurd rfl h⟩
                rw [List.getElem?_append] at hy
                split at hy
                · rename_i hlt
                  rw [c2] at hlt
                  rw [List.getElem?_take_of_lt hlt, List.getElem?_drop] at hy
                  obtain ⟨u', a1, a2, a3⟩ := g4 _ y hy
                  exact ⟨u', by rw [r9 i hlt, Nat.add_assoc]; exact a1, a2.mono (hb.ext _), a3⟩
                · rename_i hge
                  rw [c2] at hy hge
                  obtain ⟨u', a1, a2⟩ := hrel.get hy
                  have hlt : i - len * sz < m * sz := by have := (List.getElem?_eq_some_iff.1 hy).1; omega
                  have := r10 (i - len * sz) hlt
                  rw [show pl'.m + len * sz + (i - len * sz) = pl'.m + i by omega] at this
                  exact ⟨u', by rw [this]; exact a1, a2.mono (hb.ext _), S.one u' (List.mem_of_getElem? a1)⟩
              exact ⟨_, hb.ext pl', hb.move hn e1 ⟨_, hg, by intro e; cases e⟩ r2 r3 pl' _ r4 r5 hx2, pl', cc, upI_same _ _ _, d1, d2, .inl ⟨d3, d4, d5⟩⟩
            · cases hr
          · cases hr
      · cases hr
    · exact ob_none
noncomputable def evS2B (x : V) (h : H) (n : Id) (k : KV) : R :=
  match x with
  | .s l a => cond (Nat.ble l 16777216) (match nxt n with | some n' => k (.sl n 1 0 l) (hset (.bs 0 0 l a) n h) n' | none => none) none
  | _ => none
noncomputable def evB2S (x : V) (h : H) (kk : KP) : R :=
  match x with
  | .ns => kk (.s 0 0)
  | .sl o _ off m => (match hget o h with
    | some (.bs _ _ l x) => cond (Nat.ble (off + m) l) (fN (x / 256 ^ (l - (off + m)) % 256 ^ m) fun r => kk (.s m r)) none
    | _ => none)
  | _ => none
noncomputable def evConv (T : Tab) (s d : TypeId) (x : V) (h : H) (n : Id) (k : KV) : R :=
  match T.kd s, T.kd d with
  | .int _, .int _ => evConvI T s d x fun v => k v h n
  | .str, .slice _ => (match T.bb d with | some _ => evS2B x h n k | none => none)
  | .slice _, .str => (match T.bb s with | some _ => evB2S x h fun v => k v h n | none => none)
  | .str, .str => (match x with | .s l a => k (.s l a) h n | _ => none)
  | _, _ => none
def u8T (P : Program) (T : Tab) : Prop := ∀ t e, T.bb t = some e → P.underlying e = some (.int .u8)
include hT in
theorem conv_ok (h8 : u8T P T) (s d : TypeId) (x : Operand) : Ob P (.convert s d x) E h n k (evConv T s d (E x) h n k) := by
  have mx : x ∈ (Op.convert s d x).operands := by simp [Op.operands]
  unfold evConv
  split
  · exact (convI_ok hT s d x).ob
  · rename_i e hs hd
    split
    · rename_i e' hbb
      obtain ⟨hu, i, hi, hz, hsz, hby⟩ := byteT_spec (hT.bb _ _ hbb)
      have he8 := h8 _ _ hbb
      unfold evS2B
      split
      · rename_i l a hx
        rw [ble_eq]
        refine ob_cond fun c => ?_
        have c := of_decide_eq_true c
        split
        · rename_i n' hn
          refine ob_mk fun o ho w0 ι ρ w hb hρ => ?_
          have h1 := hρ x mx
          rw [hx] at h1
          obtain ⟨str, h1, hs2⟩ := h1
          have hrun : (execOp ρ o).run P w = .ok (.value (.slice (some ⟨w.heap.size, 0, none⟩) str.size (grownCap w str.size 0 e'))) (Lib.bytesWorld w e' str) := by
            simp [execOp, ho, h1, Lib.run_convert_string_bytes w s d e' str (hT.kstr _ hs) hu he8]
          rw [hrun]
          have hg : w.grownBy (Lib.bytesWorld w e' str) none := ⟨rfl, rfl, rfl, by rw [Lib.bytesWorld_size]; omega, fun k hk _ => Lib.bytesWorld_at_old w e' str k hk⟩
          have hat := Lib.bytesWorld_at_new w e' str
          have hge := grownCap_ge w str.size 0 e'
          have hcm : grownCap w str.size 0 e' ≤ maxLen := grownCap_le_maxLen w str.size 0 e' (by rw [hs2.size]; simp only [maxLen]; omega)
          have hvs : (Lib.bytesCells w e' str).size = grownCap w str.size 0 e' := by
            simp [Lib.bytesCells]; omega
          refine ⟨_, hb.ext ⟨w.heap.size, 0, (Lib.bytesCells w e' str).size⟩, hb.alloc hn hg (by exact Nat.le_succ _) _ _ rfl (by rw [Lib.bytesWorld_size]; simp) ⟨Lib.bytesCells w e' str, e', _, str.data.toList, hat, rfl, ?_, hs2.1, hs2.2, fun i b hib => ?_, fun off h1 _ => ?_, fun h => absurd rfl h⟩,
            ⟨w.heap.size, 0, (Lib.bytesCells w e' str).size⟩, _, upI_same _ _ _, by rw [← hs2.size]; exact hge, hcm, ?_⟩
          · show 0 + l ≤ (Lib.bytesCells w e' str).size
            rw [hvs, ← hs2.size]; omega
          · have hi : i < str.data.size := by simpa using (List.getElem?_eq_some_iff.1 hib).1
            show (Lib.bytesCells w e' str)[0 + i]? = _
            simp only [Lib.bytesCells, Nat.zero_add, Array.getElem?_append, Array.size_map, hi, if_true, Array.getElem?_map]
            simp only [Array.getElem?_toList] at hib
            simp [hib]
          · simp only; omega
          · by_cases h0 : 0 < grownCap w str.size 0 e'
            · exact .inl ⟨h0, by show 0 + 0 + _ * 1 ≤ (Lib.bytesCells w e' str).size; omega, by rw [← hs2.size]⟩
            · exact .inr ⟨by omega, ⟨w.heap.size, 0, none⟩, by rw [show grownCap w str.size 0 e' = 0 by omega, show str.size = 0 by omega]⟩
        · exact ob_none
      · exact ob_none
    · exact ob_none
  · rename_i e hs hd
    split
    · rename_i e' hbb
      obtain ⟨hu, i, hi, hz, hsz, hby⟩ := byteT_spec (hT.bb _ _ hbb)
      have he8 := h8 _ _ hbb
      have mk : ∀ (bs : List UInt8), (bs.map fun b => (b.toNat : Int)).map (fun n => UInt8.ofNat n.toNat) = bs := fun bs => by
        rw [List.map_map]; conv => rhs; rw [← List.map_id bs]
        apply List.map_congr_left; intro b _; simp
      unfold evB2S
      split
      · rename_i hx
        refine ob_mk (xop_pure fun o ho w0 ι ρ w hb hρ => ?_)
        have h1 := hρ x mx
        rw [hx] at h1
        have h1 : ρ x = _ := h1
        have hrun : (Conv.bytesToString (.slice none 0 0)).run P w = .ok (.string ⟨#[]⟩) w := K.run_bytesToString (P := P) w none 0 [] (.inl rfl)
        exact ⟨.string ⟨#[]⟩, by simp [execOp, ho, convert, run_underlying hu, run_underlying (hT.kstr _ hd), run_underlying he8, h1, hrun], _, rfl, rfl, rfl⟩
      · rename_i o' sz off m hx
        split
        · rename_i fz l b hg
          rw [ble_eq, fN_eq]
          refine ob_cond fun c => ?_
          have c := of_decide_eq_true c
          refine ob_mk (xop_pure fun o ho w0 ι ρ w hb hρ => ?_)
          have h1 := hρ x mx
          rw [hx] at h1
          obtain ⟨pl, cc, e1, h2, h3, hv⟩ := h1
          obtain ⟨vals, ee, fr, bs, g1, g2, g3, g4, g5, g6, g7⟩ := hb.obj _ _ _ e1 hg
          have hbl : ((bs.take (off + m)).drop off).length = m := by simp; omega
          have hsv : ∃ A c', ρ x = .slice A m c' ∧ (m = 0 ∨ A = some ⟨pl.b, pl.m + off, none⟩) := by
            rcases hv with ⟨_, _, h⟩ | ⟨h0, a, h⟩
            · exact ⟨_, _, h, .inr rfl⟩
            · have : m = 0 := by omega
              subst this; exact ⟨_, _, h, .inl rfl⟩
          obtain ⟨A, c', hxv, hA⟩ := hsv
          have hml : m = (((bs.take (off + m)).drop off).map fun b => (b.toNat : Int)).length := by rw [List.length_map, hbl]
          have hrun := K.run_bytesToString (P := P) w A c' (((bs.take (off + m)).drop off).map fun b => (b.toNat : Int)) (by
            rcases hA with h | h
            · left; exact List.eq_nil_of_length_eq_zero (by omega)
            · right
              refine ⟨_, h, fun j v hj => ?_⟩
              simp only [List.getElem?_map, Option.map_eq_some_iff] at hj
              obtain ⟨n1, ⟨b1, hb1, rfl⟩, rfl⟩ := hj
              rw [List.getElem?_drop, List.getElem?_take] at hb1
              split at hb1
              · rw [K.add_lit, cell_of_row w _ _ vals ee fr g1, Nat.add_assoc]; exact g6 _ _ hb1
              · cases hb1)
          rw [← hml, mk] at hrun
          refine ⟨_, by simp [execOp, ho, convert, run_underlying hu, run_underlying (hT.kstr _ hd), run_underlying he8, hxv, hrun]; rfl, _, rfl, by simpa using hbl, ?_⟩
          have e9 : (bs.take (off + m)).length - off = m := by simp; omega
          show valB ((bs.take (off + m)).drop off) = _
          rw [valB_drop _ _ (by simp; omega), valB_take _ _ (by omega), g4, g5, e9]
        · exact ob_none
      · exact ob_none
    · exact ob_none
  · rename_i hs hd
    split
    · rename_i l a hx
      refine ob_mk (xop_pure fun o ho w0 ι ρ w hb hρ => ?_)
      have h1 := hρ x mx
      rw [hx] at h1
      obtain ⟨str, h1, hs2⟩ := h1
      exact ⟨.string str, by simp [execOp, ho, convert, run_underlying (hT.kstr _ hs), run_underlying (hT.kstr _ hd), h1], str, rfl, hs2⟩
    · exact ob_none
  · exact ob_none
end
end Go.Proofs.Nw.X
end
section
/- K21: regions whose order is open and that end with operations that come after all others: these may turn own things. -/
open Go Go.RowKit
namespace Go.Proofs.Nw.K
section
variable {P : Program} {N : Fm} {md : Region.Mode}
def Closed (md : Region.Mode) (l : List Oper) (listed : Array Bool) : Prop :=
  ∀ (i : Nat) (o : Oper), l[i]? = some o → listed.getD i false = true → ∀ e ∈ o.after, Region.binds md e = true → listed.getD e.on false = true
theorem closed_set {l : List Oper} {listed : Array Bool} (hc : Closed md l listed) {i : Nat} (hi : i ∈ Region.ready md l.toArray listed) : Closed md l (listed.setIfInBounds i true) := by
  obtain ⟨h0, o, ho, hall⟩ := mem_ready.1 hi
  intro j oj hoj hj e he hb
  refine getD_set_true ?_
  by_cases hij : i = j
  · subst hij
    have : o = oj := by
      have h1 : l[i]? = some o := by simpa using ho
      rw [h1] at hoj; exact Option.some.inj hoj
    subst this
    exact hall e he hb
  · refine hc j oj hoj ?_ e he hb
    simpa [Array.getElem?_setIfInBounds_ne hij] using hj
theorem list_getD_unlisted {listed : Array Bool} {i : Nat} (h : listed.getD i true = false) : listed.getD i false = false := by
  simp only [Array.getD_eq_getD_getElem?] at *
  cases hx : listed[i]? with
  | none => rfl
  | some b => simpa [hx] using h
theorem exists_least {p : Nat → Prop} [DecidablePred p] : ∀ (m : Nat), (∃ i, i < m ∧ p i) → ∃ i, i < m ∧ p i ∧ ∀ j, j < i → ¬ p j
  | 0, ⟨i, h, _⟩ => absurd h (Nat.not_lt_zero _)
  | m + 1, ⟨i, h, hp⟩ => by
    by_cases he : ∃ i, i < m ∧ p i
    · obtain ⟨j, h1, h2⟩ := exists_least m he
      exact ⟨j, by omega, h2⟩
    · refine ⟨i, h, hp, fun j hj hpj => he ⟨j, by omega, hpj⟩⟩
end
section
variable {P : Program} {T : Tab} {N : Fm} (hT : TabOk P T)
include hT
end
end Go.Proofs.Nw.K
end
section
/- K28: regions whose order is open: the first ones turn no own thing, and run in any order; some of them are moves, which may come at any time, even behind the last ones; the last ones come one behind the other, each behind all first ones but those moves. -/
end
section
/- V1: what is to be shown of code, without what goes without saying: 'vcc'. -/
open Go Go.RowKit
namespace Go.Proofs.Nw.K
inductive Ob (p K : Prop) : Prop | mk (h : p) (k : K) : Ob p K
inductive Br (b : Bool) (K L : Prop) : Prop | mk (h : b = true → K) (k : b = false → L) : Br b K L
def gd (b : Bool) (K : Prop) : Prop := match b with | true => K | false => False
theorem gd_out {b : Bool} {K : Prop} (h : gd b K) : b = true ∧ K := by cases b with | true => exact ⟨rfl, h⟩ | false => exact h.elim
theorem Ob.out {p K : Prop} (h : Ob p K) : p ∧ K := ⟨h.1, h.2⟩
def ikN : IntKind → Nat | .i8 => 0 | .i16 => 1 | .i32 => 2 | .i64 => 3 | .u8 => 4 | .u16 => 5 | .u32 => 6 | .u64 => 7
def ikb (a b : IntKind) : Bool := Nat.beq (ikN a) (ikN b)
theorem ikb_eq {a b : IntKind} (h : ikb a b = true) : a = b := by cases a <;> cases b <;> first | rfl | cases h
def lenOk {α : Type _} : Nat → List α → Bool
  | 0, _ => true
  | _ + 1, [] => false
  | n + 1, _ :: r => lenOk n r
theorem lenOk_le {α : Type _} : ∀ {n : Nat} {l : List α}, lenOk n l = true → n ≤ l.length
  | 0, _, _ => Nat.zero_le _
  | _ + 1, [], h => by cases h
  | n + 1, _ :: r, h => Nat.succ_le_succ (lenOk_le (l := r) h)
def lenIs {α : Type _} : Nat → List α → Bool
  | 0, [] => true
  | n + 1, _ :: r => lenIs n r
  | _, _ => false
theorem lenIs_eq {α : Type _} : ∀ {n : Nat} {l : List α}, lenIs n l = true → l.length = n
  | 0, [], _ => rfl
  | n + 1, _ :: r, h => by simp [lenIs_eq (n := n) (l := r) h]
  | 0, _ :: _, h => by cases h
  | _ + 1, [], h => by cases h
theorem beq_out {a b : Nat} (h : Nat.beq a b = true) : a = b := Nat.eq_of_beq_eq_true h
def isStr : TK → Bool | .str => true | _ => false
theorem isStr_eq {k : TK} (h : isStr k = true) : k = .str := by cases k <;> first | rfl | cases h
def isBool : TK → Bool | .bool => true | _ => false
theorem isBool_eq {k : TK} (h : isBool k = true) : k = .bool := by cases k <;> first | rfl | cases h
def isU8 : TK → Bool | .int .u8 => true | _ => false
theorem isU8_eq {k : TK} (h : isU8 k = true) : k = .int .u8 := by
  cases k with
  | int k => cases k <;> first | rfl | cases h
  | _ => cases h
section
variable (P : Program) (T : Tab) (N : Fm)
def cArith (k : IntKind) (r : Int) (st : List AO) (K : KO) : Prop :=
  match k with
  | .i64 => Ob (-9223372036854775808 ≤ r ∧ r ≤ 9223372036854775807) (K (.int r) st)
  | k => K (.sc (.int k (k.wrap r))) st
theorem cArith_out {k r st K} (h : cArith k r st K) : vcArith k r st K := by
  unfold cArith at h
  unfold vcArith
  split at h
  · exact h.out
  · split
    · rename_i h0; exact (h0 rfl).elim
    · exact h
def cBin (op : BinOp) (t : Nat) (x y : AV) (st : List AO) (K : KO) : Prop :=
  match op, x, y with
  | .add, .v (.one (.sc (.int k a))), .v (.one (.sc (.int k' b))) => gd (ikb k' k) (cArith k (a + b) st K)
  | .sub, .v (.one (.sc (.int k a))), .v (.one (.sc (.int k' b))) => gd (ikb k' k) (cArith k (a - b) st K)
  | .mul, .v (.one (.sc (.int k a))), .v (.one (.sc (.int k' b))) => gd (ikb k' k) (cArith k (a * b) st K)
  | .quo, .v (.one (.sc (.int k a))), .v (.one (.sc (.int k' b))) => gd (ikb k' k) (Ob (b ≠ 0) (cArith k (a.tdiv b) st K))
  | .rem, .v (.one (.sc (.int k a))), .v (.one (.sc (.int k' b))) => gd (ikb k' k) (Ob (b ≠ 0) (K (.sc (.int k (a.tmod b))) st))
  | .eql, .v (.one (.sc (.int k a))), .v (.one (.sc (.int k' b))) => gd (ikb k' k) (K (.bool (a == b)) st)
  | .neq, .v (.one (.sc (.int k a))), .v (.one (.sc (.int k' b))) => gd (ikb k' k) (K (.bool (a != b)) st)
  | .lss, .v (.one (.sc (.int k a))), .v (.one (.sc (.int k' b))) => gd (ikb k' k) (K (.bool (decide (a < b))) st)
  | .leq, .v (.one (.sc (.int k a))), .v (.one (.sc (.int k' b))) => gd (ikb k' k) (K (.bool (decide (a ≤ b))) st)
  | .gtr, .v (.one (.sc (.int k a))), .v (.one (.sc (.int k' b))) => gd (ikb k' k) (K (.bool (decide (a > b))) st)
  | .geq, .v (.one (.sc (.int k a))), .v (.one (.sc (.int k' b))) => gd (ikb k' k) (K (.bool (decide (a ≥ b))) st)
  | .add, .v (.one (.sc (.string a))), .v (.one (.sc (.string b))) => Ob (a.size + b.size ≤ 9223372036854775807) (K (.str (a ++ b)) st)
  | .eql, .v (.one (.sc (.bool a))), .v (.one (.sc (.bool b))) => gd (isBool (T.kd t)) (K (.bool (a == b)) st)
  | .neq, .v (.one (.sc (.bool a))), .v (.one (.sc (.bool b))) => gd (isBool (T.kd t)) (K (.bool (!(a == b))) st)
  | .eql, .ptr _ _, .v (.one (.sc (.pointer none))) => gd (T.pt t) (K (.bool false) st)
  | .eql, .v (.one (.sc (.pointer none))), .v (.one (.sc (.pointer none))) => gd (T.pt t) (K (.bool true) st)
  | .eql, .v (.agg cs), .v (.agg ds) => match T.ss t, strsOf cs, strsOf ds with
    | some n, some a, some b => gd (lenIs n a && lenIs n b) (K (.bool (eqStrs a b)) st)
    | _, _, _ => False
  | .neq, .v (.agg cs), .v (.agg ds) => match T.ss t, strsOf cs, strsOf ds with
    | some n, some a, some b => gd (lenIs n a && lenIs n b) (K (.bool (!eqStrs a b)) st)
    | _, _, _ => False
  | op, x, y => vcBin T op t x y st K
theorem cBin_out {op t x y st K} (h : cBin T op t x y st K) : vcBin T op t x y st K := by
  unfold cBin at h
  split at h
  case h_12 => exact h.out
  case h_13 => exact ⟨isBool_eq (gd_out h).1, (gd_out h).2⟩
  case h_14 => exact ⟨isBool_eq (gd_out h).1, (gd_out h).2⟩
  case h_15 => exact gd_out h
  case h_16 => exact gd_out h
  case h_17 =>
    unfold vcBin
    simp only
    split at h
    · rename_i h1 h2 h3
      obtain ⟨h4, h5⟩ := gd_out h
      rw [Bool.and_eq_true] at h4
      rw [h1, h2, h3]
      exact ⟨lenIs_eq h4.1, lenIs_eq h4.2, h5⟩
    · exact h.elim
  case h_18 =>
    unfold vcBin
    simp only
    split at h
    · rename_i h1 h2 h3
      obtain ⟨h4, h5⟩ := gd_out h
      rw [Bool.and_eq_true] at h4
      rw [h1, h2, h3]
      exact ⟨lenIs_eq h4.1, lenIs_eq h4.2, h5⟩
    · exact h.elim
  case h_19 => exact h
  case h_1 => exact ⟨ikb_eq (gd_out h).1, cArith_out (gd_out h).2⟩
  case h_2 => exact ⟨ikb_eq (gd_out h).1, cArith_out (gd_out h).2⟩
  case h_3 => exact ⟨ikb_eq (gd_out h).1, cArith_out (gd_out h).2⟩
  case h_4 => exact ⟨ikb_eq (gd_out h).1, (gd_out h).2.1, cArith_out (gd_out h).2.2⟩
  case h_5 => exact ⟨ikb_eq (gd_out h).1, (gd_out h).2.1, (gd_out h).2.2⟩
  all_goals exact ⟨ikb_eq (gd_out h).1, (gd_out h).2⟩
inductive RowAt (xs : List (List D)) (i : Nat) (K : List D → Prop) : Prop
  | mk (cells : List D) (h : xs[i]? = some cells) (k : K cells) : RowAt xs i K
theorem RowAt.ty {α : Type} {enc : α → List D} {es : List α} {i : Nat} {K : List D → Prop} (z : α) (h : i < es.length) (k : K (enc (es.getD i z))) : RowAt (es.map enc) i K :=
  .mk _ (by rw [List.getElem?_map, List.getElem?_eq_getElem h, List.getD_eq_getElem?_getD, List.getElem?_eq_getElem h]; rfl) k
def cLoad (t : Nat) (x : AV) (st : List AO) (K : KO) : Prop :=
  match T.ld t, x with
  | some (n, true), .v (.one (.ref cells)) => gd (lenOk n cells) (K (.agg (cells.take n)) st)
  | some (n, true), .ptr s off => match st[s]? with
    | some (.box bT cells) => match toDs ((cells.drop off).take n) with
      | some ds => gd (lenIs n ds) (K (.agg ds) st)
      | none => False
    | _ => False
  | some (n, true), .ep s v i off => match st[s]? with
    | some (.row v' e sz xs) => Ob (v = v') (RowAt xs i fun cells => gd (lenOk (off + n) cells) (K (.agg ((cells.drop off).take n)) st))
    | _ => False
  | some (_, false), .ep s v i off => match st[s]? with
    | some (.row v' e sz xs) => Ob (v = v') (RowAt xs i fun cells => match cells[off]? with | some d => K (.d d) st | none => False)
    | _ => False
  | _, _ => vcLoad T t x st K
theorem cLoad_out {t x st K} (h : cLoad T t x st K) : vcLoad T t x st K := by
  unfold cLoad at h
  split at h
  · rename_i n cells hl
    unfold vcLoad
    rw [hl]
    exact ⟨lenOk_le (gd_out h).1, (gd_out h).2⟩
  · rename_i n s off hl
    unfold vcLoad
    rw [hl]
    simp only
    split at h
    · rename_i bT cells hst
      rw [hst]
      simp only
      split at h
      · rename_i ds hds
        rw [hds]
        exact ⟨lenIs_eq (gd_out h).1, (gd_out h).2⟩
      · exact h.elim
    · exact h.elim
  · rename_i n s v i off hl
    unfold vcLoad
    rw [hl]
    simp only
    split at h
    · rename_i v' e sz xs hst
      rw [hst]
      obtain ⟨h1, cells, h2, h3⟩ := h
      exact ⟨h1, cells, h2, lenOk_le (gd_out h3).1, (gd_out h3).2⟩
    · exact h.elim
  · rename_i n s v i off hl
    unfold vcLoad
    rw [hl]
    simp only
    split at h
    · rename_i v' e sz xs hst
      rw [hst]
      obtain ⟨h1, cells, h2, h3⟩ := h
      split at h3
      · rename_i d hd
        exact ⟨h1, cells, d, h2, hd, h3⟩
      · exact h3.elim
    · exact h.elim
  · exact h
inductive RowSet (xs : List (List D)) (i sz : Nat) (G : List D → Prop → Prop) (f : List D → List D) (K : List (List D) → Prop) : Prop
  | raw (cells : List D) (h : xs[i]? = some cells) (k : G cells (K (xs.set i (f cells)))) : RowSet xs i sz G f K
  | ty {α : Type} (enc : α → List D) (es : List α) (z y : α) (h : xs = es.map enc) (hi : i < es.length) (hy : f (enc (es.getD i z)) = enc y) (k : G (enc (es.getD i z)) (K ((es.set i y).map enc))) : RowSet xs i sz G f K
theorem RowSet.out {xs i sz G f K} (h : RowSet xs i sz G f K) : ∃ cells, xs[i]? = some cells ∧ G cells (K (xs.set i (f cells))) := by
  cases h with
  | raw cells h k => exact ⟨cells, h, k⟩
  | ty enc es z y h hi hy k =>
    subst h
    refine ⟨enc (es.getD i z), by rw [List.getElem?_map, List.getElem?_eq_getElem hi, List.getD_eq_getElem?_getD, List.getElem?_eq_getElem hi]; rfl, ?_⟩
    rw [hy, ← List.map_set]
    exact k
def cStore (t : Nat) (x y : AV) (st : List AO) (K : KO) : Prop :=
  match T.ld t, x, y with
  | some (n, true), .ptr s off, .v (.agg ds) => match st[s]? with
    | some (.box bT cells) => gd (lenIs n ds && lenOk (off + n) cells) (K .junk (st.set s (.box bT (cells.take off ++ ds.map AV.d ++ cells.drop (off + n)))))
    | _ => False
  | some (1, false), .ptr s off, a => match st[s]? with
    | some (.box bT cells) => Ob (okSingle st a) (gd (lenOk (off + 1) cells) (K .junk (st.set s (.box bT (cells.take off ++ [a] ++ cells.drop (off + 1))))))
    | some (.brow e ns) => ∃ m, a = .byte m ∧ Ob (off < ns.length) (K .junk (st.set s (.brow e (ns.set off m))))
    | _ => False
  | some (n, true), .ep s v i off, .v (.agg ds) => match st[s]? with
    | some (.row v' e sz xs) => Ob (v = v') (RowSet xs i sz (fun cells => gd (lenIs n ds && lenOk (off + n) cells)) (fun cells => cells.take off ++ ds ++ cells.drop (off + n)) fun xs' => K .junk (st.set s (.row v e sz xs')))
    | _ => False
  | some (1, false), .ep s v i off, .v (.one d) => match st[s]? with
    | some (.row v' e sz xs) => Ob (v = v') (RowSet xs i sz (fun cells => gd (lenOk (off + 1) cells)) (fun cells => cells.set off d) fun xs' => K .junk (st.set s (.row v e sz xs')))
    | _ => False
  | _, _, _ => vcStore T t x y st K
theorem cStore_out {t x y st K} (h : cStore T t x y st K) : vcStore T t x y st K := by
  unfold cStore at h
  split at h
  · rename_i n s off ds hl
    unfold vcStore
    rw [hl]
    simp only
    split at h
    · rename_i bT cells hst
      rw [hst]
      obtain ⟨h4, h5⟩ := gd_out h
      rw [Bool.and_eq_true] at h4
      exact ⟨lenIs_eq h4.1, lenOk_le h4.2, h5⟩
    · exact h.elim
  · rename_i s off hl
    unfold vcStore
    rw [hl]
    simp only
    split at h
    · rename_i bT cells hst
      rw [hst]
      exact ⟨h.1, lenOk_le (gd_out h.2).1, (gd_out h.2).2⟩
    · rename_i e ns hst
      rw [hst]
      obtain ⟨m, h1, h2, h3⟩ := h
      exact ⟨m, h1, h2, h3⟩
    · exact h.elim
  · rename_i n s v i off ds hl
    unfold vcStore
    rw [hl]
    simp only
    split at h
    · rename_i v' e sz xs hst
      rw [hst]
      obtain ⟨h1, h0⟩ := h
      obtain ⟨cells, h2, h3⟩ := h0.out
      obtain ⟨h4, h5⟩ := gd_out h3
      rw [Bool.and_eq_true] at h4
      exact ⟨h1, cells, h2, lenIs_eq h4.1, lenOk_le h4.2, h5⟩
    · exact h.elim
  · rename_i s v i off d hl
    unfold vcStore
    rw [hl]
    simp only
    split at h
    · rename_i v' e sz xs hst
      rw [hst]
      obtain ⟨h1, h0⟩ := h
      obtain ⟨cells, h2, h3⟩ := h0.out
      exact ⟨h1, cells, h2, lenOk_le (gd_out h3).1, (gd_out h3).2⟩
    · exact h.elim
  · exact h
inductive GiveK (K L : Prop) : Prop | keep (h : K) : GiveK K L | give (h : L) : GiveK K L
def cStoreG (t : Nat) (x y : AV) (st : List AO) (K : KO) : Prop :=
  match y with
  | .h s k lo n => GiveK (cStore T t x (.h s k lo n) st K) (match st[s]? with
    | some (.row k' e sz xs) => Ob (k = k' ∧ lo = 0 ∧ n = xs.length) (cStore T t x (.list sz xs) (st.set s .gone) K)
    | _ => False)
  | y => cStore T t x y st K
theorem cStoreG_out {t x y st K} (h : cStoreG T t x y st K) : vcStoreG T t x y st K := by
  unfold cStoreG at h
  unfold vcStoreG
  split at h
  · simp only
    rcases h with h | h
    · exact .inl (cStore_out T h)
    · refine .inr ?_
      split at h
      · rename_i hst
        rw [hst]
        exact ⟨h.1, cStore_out T h.2⟩
      · exact h.elim
  · rename_i hn
    split
    · exact (hn _ _ _ _ rfl).elim
    · exact cStore_out T h
def cIndexAddr (t : Nat) (x i : AV) (st : List AO) (K : KO) : Prop :=
  match T.el t, x, i with
  | some (e, sz), .v (.one (.tl α sz' enc z xs)), .v (.one (.sc (.int _ n))) => gd (Nat.beq sz' sz) (Ob (0 ≤ n ∧ n < xs.length) (K (.d (.ref (enc (xs.getD n.toNat z)))) st))
  | some (e, sz), .v (.one (.list sz' xs)), .v (.one (.sc (.int _ n))) => gd (Nat.beq sz' sz) (Ob (0 ≤ n) (∃ cells, xs[n.toNat]? = some cells ∧ K (.d (.ref cells)) st))
  | some (e, sz), .h s v lo m, .v (.one (.sc (.int _ n))) => match st[s]? with
    | some (.row v' e' sz' xs) => gd (Nat.beq sz' sz) (Ob (v = v' ∧ 0 ≤ n ∧ n < m) (match Nat.beq lo 0 with | true => K (.ep s v n.toNat 0) st | false => K (.ep s v (lo + n.toNat) 0) st))
    | _ => False
  | _, _, _ => vcIndexAddr T t x i st K
theorem cIndexAddr_out {t x i st K} (h : cIndexAddr T t x i st K) : vcIndexAddr T t x i st K := by
  unfold cIndexAddr at h
  split at h
  · rename_i hl
    unfold vcIndexAddr
    rw [hl]
    obtain ⟨h1, h2⟩ := gd_out h
    exact ⟨beq_out h1, h2.1.1, h2.1.2, h2.2⟩
  · rename_i hl
    unfold vcIndexAddr
    rw [hl]
    obtain ⟨h1, h2⟩ := gd_out h
    exact ⟨beq_out h1, h2.1, h2.2⟩
  · rename_i hl
    unfold vcIndexAddr
    rw [hl]
    simp only
    split at h
    · rename_i hst
      rw [hst]
      obtain ⟨h1, h2⟩ := gd_out h
      refine ⟨beq_out h1, h2.1.1, h2.1.2.1, h2.1.2.2, ?_⟩
      have h3 := h2.2
      split at h3
      · rename_i h4
        rw [beq_out h4, Nat.zero_add]; exact h3
      · exact h3
    · exact h.elim
  · exact h
def cLo (E : Operand → AV) (o : Option Operand) (K : Nat → Prop) : Prop :=
  match o with
  | none => K 0
  | some x => match E x with
    | .v (.one (.sc (.int .i64 n))) => Ob (0 ≤ n) (K n.toNat)
    | _ => False
def cHi (E : Operand → AV) (len : Nat) (o : Option Operand) (K : Nat → Prop) : Prop :=
  match o with
  | none => K len
  | some x => match E x with
    | .v (.one (.sc (.int .i64 n))) => Ob (0 ≤ n) (K n.toNat)
    | _ => False
theorem cLo_out {E : Operand → AV} {o K} {K' : Nat → Prop} (h : cLo E o K) (hk : ∀ n, K n → K' n) : vcLo E o K' := by
  cases o with
  | none => exact hk _ h
  | some x =>
    unfold cLo at h
    unfold vcLo
    simp only at h ⊢
    split at h
    · rename_i he
      simp only [he]
      exact ⟨h.1, hk _ h.2⟩
    · exact h.elim
theorem cHi_out {E : Operand → AV} {o K len} {K' : Nat → Prop} (h : cHi E len o K) (hk : ∀ n, K n → K' n) : vcHi E len o K' := by
  cases o with
  | none => exact hk _ h
  | some x =>
    unfold cHi at h
    unfold vcHi
    simp only at h ⊢
    split at h
    · rename_i he
      simp only [he]
      exact ⟨h.1, hk _ h.2⟩
    · exact h.elim
def cSlice (t : Nat) (x : AV) (lo hi : Option Operand) (E : Operand → AV) (st : List AO) (K : KO) : Prop :=
  match x with
  | .v (.one (.sc (.string s))) => gd (isStr (T.kd t)) (cLo E lo fun l => cHi E s.size hi fun h => Ob (l ≤ h ∧ h ≤ s.size) (K (.str (s.extract l h)) st))
  | .v (.one (.tl α sz enc z xs)) => match T.el t with
    | some (e, sz') => gd (Nat.beq sz sz') (match hi, lo with
      | none, _ => cLo E lo fun l => Ob (l ≤ xs.length) (K (.d (.tl α sz enc z (xs.drop l))) st)
      | some _, none => cHi E xs.length hi fun h => Ob (h ≤ xs.length) (K (.d (.tl α sz enc z (xs.take h))) st)
      | _, _ => cLo E lo fun l => cHi E xs.length hi fun h => Ob (l ≤ h ∧ h ≤ xs.length) (K (.d (.tl α sz enc z ((xs.take h).drop l))) st))
    | none => False
  | .v (.one (.list sz xs)) => match T.el t with
    | some (e, sz') => gd (Nat.beq sz sz') (cLo E lo fun l => cHi E xs.length hi fun h => Ob (l ≤ h ∧ h ≤ xs.length) (K (.list sz ((xs.take h).drop l)) st))
    | none => False
  | .h s k off n => match T.el t, st[s]? with
    | some (e, sz'), some (.row k' e' sz xs) => gd (Nat.beq sz sz') (Ob (k = k') (cLo E lo fun l => cHi E n hi fun h => Ob (l ≤ h ∧ h ≤ n) (K (.h s k (off + l) (h - l)) st)))
    | _, _ => False
  | _ => False
theorem cSlice_out {t x lo hi E st K} (h : cSlice T t x lo hi E st K) : vcSlice T t x lo hi E st K := by
  unfold cSlice at h
  split at h
  · obtain ⟨h1, h2⟩ := gd_out h
    exact ⟨isStr_eq h1, cLo_out h2 fun l hl => cHi_out hl fun n hn => ⟨hn.1.1, hn.1.2, hn.2⟩⟩
  · unfold vcSlice
    simp only
    split at h
    · rename_i hl
      rw [hl]
      obtain ⟨h1, h2⟩ := gd_out h
      refine ⟨beq_out h1, ?_⟩
      split at h2
      · refine cLo_out h2 fun l hl => ?_
        show l ≤ _ ∧ _ ≤ _ ∧ _
        refine ⟨hl.1, Nat.le_refl _, ?_⟩
        rw [List.take_length]; exact hl.2
      · unfold vcLo
        simp only
        refine cHi_out h2 fun n hn => ⟨Nat.zero_le _, hn.1, ?_⟩
        rw [List.drop_zero]; exact hn.2
      · exact cLo_out h2 fun l hl => cHi_out hl fun n hn => ⟨hn.1.1, hn.1.2, hn.2⟩
    · exact h.elim
  · unfold vcSlice
    simp only
    split at h
    · rename_i hl
      rw [hl]
      obtain ⟨h1, h2⟩ := gd_out h
      exact ⟨beq_out h1, cLo_out h2 fun l hl => cHi_out hl fun n hn => ⟨hn.1.1, hn.1.2, hn.2⟩⟩
    · exact h.elim
  · unfold vcSlice
    simp only
    split at h
    · rename_i hl hst
      rw [hl, hst]
      obtain ⟨h1, h2⟩ := gd_out h
      exact ⟨beq_out h1, h2.1, cLo_out h2.2 fun l hl => cHi_out hl fun n hn => ⟨hn.1.1, hn.1.2, hn.2⟩⟩
    · exact h.elim
  · exact h.elim
def cSrc (st : List AO) (sz : Nat) (a : AV) (K : List (List D) → Nat → Prop) : Prop :=
  match a with
  | .v (.one (.list sz' [c])) => gd (Nat.beq sz' sz) (K [c] 1)
  | .v (.one (.list sz' [c, d])) => gd (Nat.beq sz' sz) (K [c, d] 2)
  | .v (.one (.list sz' ys)) => gd (Nat.beq sz' sz) (K ys ys.length)
  | .v (.one (.tl α sz' enc z ys)) => gd (Nat.beq sz' sz) (K (ys.map enc) ys.length)
  | .v (.one .nils) => K [] 0
  | .h s k lo n => match st[s]? with
    | some (.row k' e sz' xs) => gd (Nat.beq sz' sz) (Ob (k = k' ∧ lo = 0 ∧ n = xs.length) (K xs n))
    | _ => False
  | _ => False
theorem cSrc_out {st sz a K} {K' : List (List D) → Prop} (h : cSrc st sz a K) (hk : ∀ ys n, n = ys.length → K ys n → K' ys) : srcRows st sz a K' := by
  unfold cSrc at h
  split at h
  · exact ⟨beq_out (gd_out h).1, hk _ _ rfl (gd_out h).2⟩
  · exact ⟨beq_out (gd_out h).1, hk _ _ rfl (gd_out h).2⟩
  · exact ⟨beq_out (gd_out h).1, hk _ _ rfl (gd_out h).2⟩
  · exact ⟨beq_out (gd_out h).1, hk _ _ (by simp) (gd_out h).2⟩
  · exact hk _ _ rfl h
  · unfold srcRows
    simp only
    split at h
    · rename_i hst
      rw [hst]
      obtain ⟨h1, ⟨rfl, rfl, rfl⟩, h3⟩ := gd_out h
      refine ⟨beq_out h1, rfl, ?_⟩
      rw [List.drop_zero, List.take_length]
      exact hk _ _ rfl h3
    · exact h.elim
  · exact h.elim
def SrcIs (st : List AO) (sz : Nat) (y : AV) (rows : List (List D)) : Prop := cSrc st sz y fun ys _ => ys = rows
inductive AppK (st : List AO) (e sz by_ s k n : Nat) (rows : List (List D)) (y : AV) (K : KO) : Prop
  | whole (h : n = rows.length) (kk : cSrc st sz y fun ys m => Ob ((n + m) * by_ ≤ 140737488355328) (K (.h s (k + 1) 0 (n + m)) (st.set s (.row (k + 1) e sz (rows ++ ys))))) : AppK st e sz by_ s k n rows y K
  | part (kk : cSrc st sz y fun ys m => Ob ((n + m) * by_ ≤ 140737488355328) (K (.h s (k + 1) 0 (n + m)) (st.set s (.row (k + 1) e sz (rows.take n ++ ys))))) : AppK st e sz by_ s k n rows y K
  | ty {α : Type} (enc : α → List D) (xs ys : List α) (h1 : rows = xs.map enc) (h2 : n = xs.length) (h3 : SrcIs st sz y (ys.map enc)) (h4 : (xs ++ ys).length * by_ ≤ 140737488355328)
      (kk : K (.h s (k + 1) 0 (xs ++ ys).length) (st.set s (.row (k + 1) e sz ((xs ++ ys).map enc)))) : AppK st e sz by_ s k n rows y K
inductive AppN (st : List AO) (e sz by_ : Nat) (y : AV) (K : KO) : Prop
  | raw (k : cSrc st sz y fun ys m => Ob (m * by_ ≤ 140737488355328) (K (.h st.length 0 0 m) (st ++ [.row 0 e sz ys]))) : AppN st e sz by_ y K
  | ty {α : Type} (enc : α → List D) (ys : List α) (h3 : SrcIs st sz y (ys.map enc)) (h4 : ys.length * by_ ≤ 140737488355328) (k : K (.h st.length 0 0 ys.length) (st ++ [.row 0 e sz (ys.map enc)])) : AppN st e sz by_ y K
def cAppend (t : Nat) (x y : AV) (st : List AO) (K : KO) : Prop :=
  match T.ap t, x with
  | some (e, sz, by_), .v (.one .nils) => gd (Nat.ble 1 by_) (AppN st e sz by_ y K)
  | some (e, sz, by_), .h s k lo n => match st[s]? with
    | some (.row k' e' sz' xs) => gd (Nat.ble 1 by_ && Nat.beq e' e && Nat.beq sz' sz && Nat.beq lo 0) (Ob (k = k') (AppK st e sz by_ s k n xs y K))
    | _ => False
  | _, _ => vcAppend T t x y st K
theorem by_le {n b : Nat} (hb : Nat.ble 1 b = true) (h : n * b ≤ 140737488355328) : n ≤ maxLen := by
  have h1 : 1 ≤ b := Nat.le_of_ble_eq_true hb
  have h2 : n * 1 ≤ n * b := Nat.mul_le_mul_left n h1
  have : maxLen = 9223372036854775807 := rfl
  omega
theorem cAppend_out {t x y st K} (h : cAppend T t x y st K) : vcAppend T t x y st K := by
  unfold cAppend at h
  split at h
  · rename_i hl
    unfold vcAppend
    rw [hl]
    obtain ⟨h1, h2⟩ := gd_out h
    cases h2 with
    | raw h2 =>
      refine cSrc_out h2 fun ys n hn h3 => ?_
      subst hn
      exact ⟨h3.1, by_le h1 h3.1, h3.2⟩
    | ty enc zs h3 h4 k =>
      refine cSrc_out h3 fun ys n hn h5 => ?_
      subst h5
      rw [List.length_map]
      exact ⟨h4, by_le h1 h4, k⟩
  · rename_i hl
    unfold vcAppend
    rw [hl]
    simp only
    split at h
    · rename_i hst
      rw [hst]
      obtain ⟨h1, h2, h3⟩ := gd_out h
      simp only [Bool.and_eq_true] at h1
      refine ⟨⟨h2, beq_out h1.1.1.2, beq_out h1.1.2, beq_out h1.2⟩, ?_⟩
      cases h3 with
      | whole he h3 =>
        refine cSrc_out h3 fun ys n hn h3 => ?_
        subst hn he
        rw [List.take_length]
        exact ⟨h3.1, by_le h1.1.1.1 h3.1, h3.2⟩
      | part h3 =>
        refine cSrc_out h3 fun ys n hn h3 => ?_
        subst hn
        exact ⟨h3.1, by_le h1.1.1.1 h3.1, h3.2⟩
      | ty enc us vs e1 e2 h3 h4 k =>
        subst e1 e2
        refine cSrc_out h3 fun ys n hn h5 => ?_
        subst h5
        have ht : (us.map enc).take us.length = us.map enc := List.take_of_length_le (by simp)
        rw [ht, List.length_map, ← List.length_append, ← List.map_append]
        exact ⟨h4, by_le h1.1.1.1 h4, k⟩
    · exact h.elim
  · exact h
def cAppendS (t : Nat) (x : AV) (s : ByteArray) (st : List AO) (K : KO) : Prop :=
  match T.bb t, x with
  | some e, .v (.one .nils) => Ob (s.size ≤ 140737488351232) (K (.h st.length 0 0 (strRows s).length) (st ++ [.row 0 e 1 (strRows s)]))
  | some e, .h r k lo n => match st[r]? with
    | some (.row k' e' sz xs) => gd (Nat.beq e' e && Nat.beq sz 1 && Nat.beq lo 0) (Ob (k = k' ∧ n = xs.length) (Ob (n + s.size ≤ 140737488351232) (K (.h r (k + 1) 0 (n + (strRows s).length)) (st.set r (.row (k + 1) e 1 (xs ++ strRows s))))))
    | _ => False
  | _, _ => False
theorem cAppendS_out {t x s st K} (h : cAppendS T t x s st K) : vcAppendS T t x s st K := by
  unfold cAppendS at h
  unfold vcAppendS
  split at h
  · rename_i hl
    simp only [hl]
    exact h.out
  · rename_i hl
    simp only [hl]
    split at h
    · rename_i hst
      obtain ⟨h1, h2, h3⟩ := gd_out h
      obtain ⟨rfl, rfl⟩ := h2
      simp only [Bool.and_eq_true] at h1
      have e1 := beq_out h1.1.1
      have e2 := beq_out h1.1.2
      have e3 := beq_out h1.2
      subst e1 e2 e3
      simp only [hst, List.take_length]
      exact ⟨⟨trivial, trivial, trivial, trivial⟩, h3.1, h3.2⟩
    · exact h.elim
  · exact h.elim
def cLen (t : Nat) (x : AV) (st : List AO) (K : KO) : Prop :=
  match T.kd t, x with
  | .slice _, .h s k _ n => match st[s]? with
    | some (.row k' _ _ _) => Ob (k = k') (K (.int n) st)
    | _ => False
  | _, _ => vcLen T t x st K
theorem cLen_out {t x st K} (h : cLen T t x st K) : vcLen T t x st K := by
  unfold cLen at h
  split at h
  · rename_i hk
    unfold vcLen
    rw [hk]
    simp only
    split at h
    · rename_i hst
      rw [hst]
      exact h.out
    · exact h.elim
  · exact h
inductive CallD (P : Program) (f : FuncId) (ds : List DV) (st : List AO) (K : KO) : Prop
  | mk (ds' res : List DV) (h : Impl P f ds' res) (hl : AsLe ds ds') (k : K (resAV res) st) : CallD P f ds st K
  | own (e : TypeId) (sz : Nat) (xs : List (List D)) (h : Gives P f ds e sz xs) (k : K (.h st.length 0 0 xs.length) (st ++ [.row 0 e sz xs])) : CallD P f ds st K
theorem CallD.of {P f ds res st K} (h : Impl P f ds res) (k : K (resAV res) st) : CallD P f ds st K := .mk ds res h (AsLe.refl _) k
inductive CallE (P : Program) (f : FuncId) (args : List AV) (st : List AO) (K : KO) : Prop
  | eff (res : List DV) (st' : List AO) (h : Eff P f args st res st') (k : K (resAV res) st') : CallE P f args st K
  | give (h : sealK st args fun st' ds => ∃ ds' res, Impl P f ds' res ∧ AsLe ds ds' ∧ K (resAV res) st') : CallE P f args st K
  | lend (h : sealK st args fun _ ds => ∃ ds' res, Impl P f ds' res ∧ AsLe ds ds' ∧ res.all scDV = true ∧ K (resAV res) st) : CallE P f args st K
def cCall (f : AV) (args : List AV) (st : List AO) (K : KO) : Prop :=
  match f with
  | .v (.one (.sc (.func (.func f) ⟨[]⟩ ⟨[]⟩))) => match T.ei f with
    | true => (match args with
      | [a] => K a st
      | _ => False)
    | false => gd (T.cl f) (match argsDV args with
      | some ds => CallD P f ds st K
      | none => CallE P f args st K)
  | _ => False
theorem cCall_out {f args st K} (h : cCall P T f args st K) : vcCall P T f args st K := by
  unfold cCall at h
  split at h
  · rename_i f'
    unfold vcCall
    simp only
    cases hei : T.ei f' with
    | true =>
      simp only [hei] at h
      exact h
    | false =>
      simp only [hei] at h
      obtain ⟨h1, h2⟩ := gd_out h
      refine ⟨h1, ?_⟩
      cases hds : argsDV args with
      | some ds =>
        simp only [hds] at h2
        cases h2 with
        | mk a b c d e => exact .inl ⟨a, b, c, d, e⟩
        | own a b c d e => exact .inr ⟨a, b, c, d, e⟩
      | none =>
        simp only [hds] at h2
        cases h2 with
        | eff a b c d => exact .inl ⟨a, b, c, d⟩
        | give h => exact .inr (.inl h)
        | lend h => exact .inr (.inr h)
  · exact h.elim
def bytesS (ns : List Int) : ByteArray := ⟨(ns.map fun n => UInt8.ofNat n.toNat).toArray⟩
inductive BytesK (st : List AO) (a : AV) (K : ByteArray → Prop) : Prop
  | mk (ns : List Int) (h : SrcIs st 1 a (ns.map byteRow)) (k : K (bytesS ns)) : BytesK st a K
def cConv (s d : Nat) (x : AV) (st : List AO) (K : KO) : Prop :=
  match T.kd s, T.kd d, x with
  | .int k', .int k, .v (.one (.sc (.int k2 n))) => gd (ikb k2 k') (K (.sc (.int k (k.wrap n))) st)
  | .str, .slice e, .v (.one (.sc (.string s))) => gd (isU8 (T.kd e)) (K (.bs st.length s.size) (st ++ [.brow e (bytesI s)]))
  | .slice e, .str, .bs r n => gd (isU8 (T.kd e)) (match st[r]? with
    | some (.brow e' ns) => Ob (n = ns.length) (K (.str ⟨(ns.map fun n => UInt8.ofNat n.toNat).toArray⟩) st)
    | _ => False)
  | .slice e, .str, a => gd (isU8 (T.kd e)) (BytesK st a fun b => K (.str b) st)
  | _, _, _ => vcConv T s d x st K
theorem cConv_out {s d x st K} (h : cConv T s d x st K) : vcConv T s d x st K := by
  unfold cConv at h
  split at h
  · rename_i h1 h2
    unfold vcConv
    rw [h1, h2]
    exact ⟨ikb_eq (gd_out h).1, (gd_out h).2⟩
  · rename_i h1 h2
    unfold vcConv
    rw [h1, h2]
    exact ⟨isU8_eq (gd_out h).1, (gd_out h).2⟩
  · rename_i h1 h2
    unfold vcConv
    rw [h1, h2]
    simp only
    obtain ⟨h3, h4⟩ := gd_out h
    refine ⟨isU8_eq h3, ?_⟩
    split at h4
    · rename_i hst
      rw [hst]
      exact ⟨h4.1, h4.2⟩
    · exact h4.elim
  · rename_i h1 h2 hx
    unfold vcConv
    rw [h1, h2]
    obtain ⟨h3, h4⟩ := gd_out h
    split
    · exact absurd ‹TK.slice _ = TK.other› (by intro e; cases e)
    · exact absurd ‹TK.slice _ = TK.int _› (by intro e; cases e)
    · exact absurd ‹TK.slice _ = TK.str› (by intro e; cases e)
    · exact (hx _ _ rfl).elim
    · have e := ‹TK.slice _ = TK.slice _›; cases e; obtain ⟨ns, h5, h6⟩ := h4; exact ⟨isU8_eq h3, cSrc_out h5 fun ys n hn h7 => ⟨ns, h7, h6⟩⟩
    · exfalso; solve_by_elim
  · exact h
def forceL {α : Type _} : List α → (List α → Prop) → Prop
  | [], K => K []
  | a :: r, K => forceL r fun r' => K (a :: r')
theorem forceL_out {α : Type _} : ∀ {l : List α} {K : List α → Prop}, forceL l K → K l
  | [], _, h => h
  | a :: r, K, h => forceL_out (l := r) (K := fun r' => K (a :: r')) h
inductive NewS (st : List AO) (e sz : Nat) (l : List (List D)) (K : KO) : Prop
  | list (k : K (.list sz l) st) : NewS st e sz l K
  | full (k : K (.d (.full sz l)) st) : NewS st e sz l K
  | own (k : K (.h st.length 0 0 l.length) (st ++ [.row 0 e sz l])) : NewS st e sz l K
  | ty {α : Type} (enc : α → List D) (z : α) (es : List α) (h : l = es.map enc) (k : K (.d (.tl α sz enc z es)) st) : NewS st e sz l K
  | ownt {α : Type} (enc : α → List D) (es : List α) (h : l = es.map enc) (k : K (.h st.length 0 0 es.length) (st ++ [.row 0 e sz (es.map enc)])) : NewS st e sz l K
def cBuild (t len : Nat) (parts : Array (Nat × Operand)) (E : Operand → AV) (st : List AO) (K : KO) : Prop :=
  match T.el t with
    | some (e, sz) => match T.zd e with
      | some zs => match fillD (fun i => some (i * sz, sz)) ((List.range (len * sz)).map fun i => zs.getD (i % sz) .nils) (parts.toList.map fun p => (p.1, E p.2)) with
        | some ds => gd (lenIs sz zs && Nat.ble 1 (len * sz) && Nat.ble (len * sz) 16777216 && lenIs (len * sz) ds && lenIs len (chunk sz ds len)) (forceL (chunk sz ds len) fun l => NewS st e sz l K)
        | none => False
      | none => False
    | none => False
theorem unty {P : Program} {op : Op} {E : Operand → AV} {st : List AO} {K : KO} {α : Type} {sz : Nat} {enc : α → List D} {z : α} {es : List α} (h : OpS P op E st (.list sz (es.map enc)) st) (k : K (.d (.tl α sz enc z es)) st) : ∃ v st', OpS P op E st v st' ∧ K v st' :=
  ⟨_, _, h.weaken (v' := .d (.tl α sz enc z es)) (fun σ gh u hu => Rep.tl hu) (fun hj => by cases hj), k⟩
theorem cBuild_sound (hT : TabOk P T) {t len parts} {E : Operand → AV} {st K} (h : cBuild T t len parts E st K) : ∃ v st', OpS P (.buildSlice t len parts) E st v st' ∧ K v st' := by
  unfold cBuild at h
  cases hl : T.el t with
  | none => simp only [hl] at h
  | some x =>
    obtain ⟨e, sz⟩ := x
    simp only [hl] at h
    cases hz : T.zd e with
    | none => simp only [hz] at h
    | some zs =>
      simp only [hz] at h
      split at h
      · rename_i ds hf
        obtain ⟨h1, h2⟩ := gd_out h
        simp only [Bool.and_eq_true] at h1
        have e1 := lenIs_eq h1.1.1.1.1
        have e2 := Nat.le_of_ble_eq_true h1.1.1.1.2
        have e3 := Nat.le_of_ble_eq_true h1.1.1.2
        have e4 := lenIs_eq h1.1.2
        have e5 := lenIs_eq h1.2
        have hop := op_buildSlice (E := E) (st := st) (P := P) t e sz len parts zs ds (hT.el _ _ hl) (hT.zd _ _ hz) e1 e2 e3 hf e4
        have hop2 := op_buildSliceH (E := E) (st := st) (P := P) t e sz len parts zs ds (hT.el _ _ hl) (hT.zd _ _ hz) e1 e2 e3 hf e4
        have h3 := forceL_out h2
        generalize hch : chunk sz ds len = l at *
        subst e5
        cases h3 with
        | list k => exact ⟨_, _, hop.weaken (v' := .list sz _) (fun σ gh u hu => full_list hu) (fun hj => by cases hj), k⟩
        | full k => exact ⟨_, _, hop, k⟩
        | own k => exact ⟨_, _, hop2, k⟩
        | ty enc z es he k =>
          subst he
          exact unty (hop.weaken (v' := .list sz _) (fun σ gh u hu => full_list hu) (fun hj => by cases hj)) k
        | ownt enc es he k =>
          subst he
          exact ⟨_, _, hop2, by rw [List.length_map]; exact k⟩
      · exact h.elim
def cOp (op : Op) (E : Operand → AV) (st : List AO) (K : KO) : Prop :=
  match op with
  | .pick c a b => match E c with
    | .v (.one (.sc (.bool b'))) => Br b' (force (E a) fun v => K v st) (force (E b) fun v => K v st)
    | _ => False
  | .binOp op t x y _ => cBin T op t (E x) (E y) st K
  | .convert s d x => cConv T s d (E x) st K
  | .buildSlice t 0 ⟨[]⟩ => vcOp P T (.buildSlice t 0 ⟨[]⟩) E st K
  | .buildSlice t len parts => cBuild T t len parts E st K
  | .load t a => cLoad T t (E a) st K
  | .store t a x => cStoreG T t (E a) (E x) st K
  | .fieldAddr s x f => match T.fo s f, E x with
    | some k, .ep i v j off => match st[i]? with
      | some (.row v' _ _ _) => Ob (v = v') (K (.ep i v j (off + k)) st)
      | _ => False
    | _, _ => vcOp P T (.fieldAddr s x f) E st K
  | .indexAddr t x i => cIndexAddr T t (E x) (E i) st K
  | .index t x i => match E x, E i with
    | .v (.one (.sc (.string s))), .v (.one (.sc (.int _ n))) => gd (isStr (T.kd t)) (Ob (0 ≤ n ∧ n < s.size) (K (.byte (byteAt s n.toNat)) st))
    | _, _ => False
  | .slice t x lo hi none => cSlice T t (E x) lo hi E st K
  | .call { callee := .value x, args := args, .. } => cCall P T (E x) (args.toList.map E) st K
  | .call { callee := .builtin .len, args := ⟨[x]⟩, argTypes := ⟨[t]⟩ } => cLen T t (E x) st K
  | .call { callee := .builtin .append, args := ⟨[x, y]⟩, argTypes := ⟨[t, t']⟩ } => match E y with
    | .v (.one (.sc (.string s))) => gd (isStr (T.kd t')) (cAppendS T t (E x) s st K)
    | y => gd (Nat.beq t' t) (cAppend T t (E x) y st K)
  | .nilCheck x => match E x with
    | .ep s v i off => match st[s]? with
      | some (.row v' _ _ _) => Ob (v = v') (K (.ep s v i off) st)
      | _ => False
    | _ => vcOp P T (.nilCheck x) E st K
  | .unOp .neg _ x => match E x with
    | .v (.one (.sc (.int k b))) => cArith k (0 - b) st K
    | _ => False
  | op => vcOp P T op E st K
theorem cOp_sound (hT : TabOk P T) {op : Op} {E : Operand → AV} {st : List AO} {K : KO} (h : cOp P T op E st K) : ∃ v st', OpS P op E st v st' ∧ K v st' := by
  unfold cOp at h
  split at h
  case h_5 => exact cBuild_sound P T hT h
  all_goals refine vcOp_sound hT ?_
  · unfold vcOp
    simp only
    split at h
    · rename_i hb
      rw [hb]
      exact ⟨h.1, h.2⟩
    · exact h.elim
  · exact cBin_out T h
  · exact cConv_out T h
  · exact h
  · exact cLoad_out T h
  · exact cStoreG_out T h
  · split at h
    · rename_i hf hx
      unfold vcOp
      simp only
      rw [hf, hx]
      simp only
      split at h
      · rename_i hst
        rw [hst]
        exact h.out
      · exact h.elim
    · exact h
  · exact cIndexAddr_out T h
  · unfold vcOp
    simp only
    split at h
    · rename_i hx hi
      rw [hx, hi]
      obtain ⟨h1, h2⟩ := gd_out h
      exact ⟨isStr_eq h1, h2.1.1, h2.1.2, h2.2⟩
    · exact h.elim
  · exact cSlice_out T h
  · exact cCall_out P T h
  · exact cLen_out T h
  · unfold vcOp
    simp only
    split at h
    · rename_i hy
      rw [hy]
      exact ⟨isStr_eq (gd_out h).1, cAppendS_out T (gd_out h).2⟩
    · rename_i hn
      obtain ⟨h1, h2⟩ := gd_out h
      split
      · rename_i hy; exact (hn _ hy).elim
      · exact ⟨beq_out h1, cAppend_out T h2⟩
  · split at h
    · rename_i hx
      unfold vcOp
      simp only
      rw [hx]
      simp only
      split at h
      · rename_i hst
        rw [hst]
        exact h.out
      · exact h.elim
    · exact h
  · unfold vcOp
    simp only
    split at h
    · rename_i hx; rw [hx]; exact cArith_out h
    · exact h.elim
  · exact h
def setB (env : Env) (c : Operand) (b : Bool) : Env := match c with | .tmp d => upd env d (.bool b) | _ => env
end
end Go.Proofs.Nw.K
end
section
/- K19: what a row hands in, read as data. -/
open Go Go.RowKit
namespace Go.Proofs.Nw.K
def sigOf (w : World) : Sig where
  cell b o := (w.cell? ⟨b, o, none⟩).filter (·.oneCell')
  obj r := match w.heap[r]? with | some (.map es c) => some (.map es c) | _ => none
mutual
def bulk {H : Type} : DataW H → Nat
  | .lit (.string bytes) => bytes.length + 1
  | .lit _ => 1
  | .nil => 1
  | .ptr d => bulk d + 1
  | .slice elems spare => bulkAll elems + bulkAll spare + 1
  | .agg parts => bulkAll parts + 1
  | .iface _ d => bulk d + 1
  | .map entries => bulkEntries entries + 1
  | .held _ => 1
def bulkAll {H : Type} : List (DataW H) → Nat
  | [] => 0
  | d :: r => bulk d + bulkAll r
def bulkEntries {H : Type} : List (Lit × DataW H) → Nat
  | [] => 0
  | x :: r => bulkEntry x + bulkEntries r
def bulkEntry {H : Type} : Lit × DataW H → Nat
  | (.string bytes, d) => bytes.length + bulk d + 1
  | (_, d) => bulk d + 1
end
structure Opens (P : Program) (t : TypeId) {α : Type} (enc : α → List D) (wt : α → Nat) (ok : α → Prop) : Prop where
  of : ∀ {H : Type} {e : TypeId × Value → H} {w : World} {base : Nat} {sp : Nat → Bool} {fuel : Nat} {cs : List Value} {x : DataW H × List MemPlace},
    DataW.trod e P w base sp true fuel t cs = some x → ∃ a, RepL (sigOf w) cs (enc a) ∧ (∀ c ∈ cs, c.oneCell' = true) ∧ wt a ≤ bulk x.1 ∧ ok a
theorem RepL.single {σ : Sig} {v : Value} {d : D} (h : Rep σ v d) : RepL σ [v] [d] :=
  ⟨rfl, fun i v' d' h1 h2 => by
    cases i with
    | zero => simp at h1 h2; subst h1 h2; exact h
    | succ i => simp at h1⟩
theorem RepL.append {σ : Sig} {vs vs' : List Value} {ds ds' : List D} (h : RepL σ vs ds) (k : RepL σ vs' ds') : RepL σ (vs ++ vs') (ds ++ ds') := by
  refine ⟨by simp [h.1, k.1], fun i v d h1 h2 => ?_⟩
  by_cases hi : i < vs.length
  · rw [List.getElem?_append_left hi] at h1
    rw [List.getElem?_append_left (by rw [← h.1]; exact hi)] at h2
    exact h.2 i v d h1 h2
  · rw [List.getElem?_append_right (by omega)] at h1
    rw [List.getElem?_append_right (by rw [← h.1]; omega), ← h.1] at h2
    exact k.2 _ v d h1 h2
variable {P : Program} {t : TypeId}
universe u
theorem Opens.map {α β : Type} {enc : α → List D} {wt : α → Nat} {ok : α → Prop} {enc' : β → List D} {wt' : β → Nat} {ok' : β → Prop} (h : Opens P t enc wt ok) (f : α → β) (h1 : ∀ a, enc' (f a) = enc a) (h2 : ∀ a, wt' (f a) ≤ wt a) (h3 : ∀ a, ok a → ok' (f a)) :
    Opens P t enc' wt' ok' := by
  refine ⟨?_⟩
  intro H e w base sp fuel cs x hx
  obtain ⟨a, a1, a2, a3, a4⟩ := h.of hx
  exact ⟨f a, by rw [h1]; exact a1, a2, Nat.le_trans (h2 a) a3, h3 a a4⟩
theorem RepVs.nil {σ : Sig} : RepVs σ [] [] := ⟨rfl, fun i v d h => by simp at h⟩
theorem RepVs.cons {σ : Sig} {v : Value} {vs : List Value} {d : DV} {ds : List DV} (h : RepV σ v d) (k : RepVs σ vs ds) : RepVs σ (v :: vs) (d :: ds) :=
  ⟨by simp [k.1], fun i v' d' h1 h2 => by
    cases i with
    | zero => simp at h1 h2; subst h1 h2; exact h
    | succ i => simp at h1 h2; exact k.2 i v' d' h1 h2⟩
end Go.Proofs.Nw.K
end
section
/- K22: a cell of one's own box, seen otherwise. -/
open Go Go.RowKit
namespace Go.Proofs.Nw.K
theorem Sub.cell {N : Fm} {env : Env} {st st1 : List AO} {s i : Nat} {bT : TypeId} {cells : List AV} {a a' : AV} (hst : st[s]? = some (.box bT cells)) (hi : cells[i]? = some a) (hst1 : st1[s]? = some (.box bT cells))
    (h : ∀ w0 σ0 σ gh w u, Base w0 σ0 σ gh st w → RepA σ gh st u a → ∃ σ' gh', Fut w0 σ0 σ gh st σ' gh' st1 w ∧ RepA σ' gh' st1 u a' ∧ gh'[s]? = gh[s]?) :
    Sub N env st env (st1.set s (AO.box bT (cells.set i a'))) := by
  intro w0 σ0 I x w ⟨hs, hd, hI, σ, gh, hb, hk, he⟩
  have hlt : s < gh.length := by rw [hb.len]; exact (List.getElem?_eq_some_iff.1 hst).1
  obtain ⟨g, hg⟩ : ∃ g, gh[s]? = some g := ⟨gh[s], List.getElem?_eq_getElem hlt⟩
  obtain ⟨b, vals, e1, e2, e3, e4, e5, e6, e7⟩ := hb.obj s _ _ hst hg
  have hil : i < vals.size := by rw [e4]; exact (List.getElem?_eq_some_iff.1 hi).1
  have hv : vals[i]? = some vals[i] := Array.getElem?_eq_getElem hil
  obtain ⟨σ', gh', hf, hu, hgg⟩ := h w0 σ0 σ gh w _ hb (e5 i _ _ hv hi)
  have hg' : gh'[s]? = some g := by rw [hgg, hg]
  obtain ⟨b', vals', f1, f2, f3, f4, f5, f6, f7⟩ := hf.base.obj s _ _ hst1 hg'
  have hbb : b' = b := by rw [e1] at f1; simpa using f1.symm
  subst hbb
  have hvv : vals' = vals := by rw [e3] at f3; simpa using f3.symm
  subst hvv
  have keep : ∀ v a, RepA σ' gh' st1 v a → RepA σ' gh' (st1.set s (AO.box bT (cells.set i a'))) v a := fun v a h' => h'.set hst1 _ (fun k' e' sz' xs' heq => by cases heq)
  have := hf.base.turn (w' := w) hst1 hg' (by simp) ⟨rfl, rfl, rfl, Nat.le_refl _, fun _ _ _ => rfl⟩ g (.box bT (cells.set i a')) (fun b hb' => .inl hb')
    ⟨b', vals', f1, f2, f3, by simpa using f4, fun j v c hj hc => by
      rw [set_self hg']
      by_cases hij : i = j
      · subst hij
        have hic : i < cells.length := (List.getElem?_eq_some_iff.1 hi).1
        have : c = a' := by simpa [hic] using hc.symm
        subst this
        rw [hv] at hj
        cases hj
        exact keep _ _ hu
      · rw [List.getElem?_set, if_neg hij] at hc
        exact keep _ _ (f5 j v c hj hc), f6, f7⟩ (by rw [set_self hg']; exact keep)
  rw [set_self hg'] at this
  exact ⟨hs, hd, hI, σ', gh', this.base, fun v a ha => this.keep _ _ (hf.keep _ _ (hk v a ha)), fun t => this.keep _ _ (hf.keep _ _ (he t))⟩
end Go.Proofs.Nw.K
end
section
/- V2: functions that may have no answer; cuts. -/
open Go Go.RowKit
namespace Go.Proofs.Nw.K
universe u
def chk {α : Type u} (c : Prop) [Decidable c] (k : Option α) : Option α := if c then k else none
theorem chk_ok {α : Type u} {c : Prop} [Decidable c] {k : Option α} (h : c) : chk c k = k := if_pos h
theorem bind_some {α β : Type u} {x : Option α} {f : α → Option β} {r : β} (h : x.bind f = some r) : ∃ v, x = some v ∧ f v = some r := Option.bind_eq_some_iff.1 h
theorem Sub.le {N : Fm} {env : Env} {st : List AO} (t : Nat) {d d' : DV} (h : env t = .v d) (hle : DLe d d') : Sub N env st (upd env t (.v d')) st :=
  Sub.slot t _ fun w0 σ0 σ gh w u hb hu => by
    rw [h] at hu
    exact ⟨σ, gh, .refl hb, hle σ u hu⟩
end Go.Proofs.Nw.K
end
section
/- K24: regions whose order is open, and in which operations turn own things one behind the other: what turns nothing does the same at each stage. -/
open Go Go.RowKit
namespace Go.Proofs.Nw.K
section
variable {P : Program} {N : Fm} {ops : Array Oper} {md : Region.Mode} {tf : List Bool} {Ss : List (List AO)}
def Yt (P : Program) (N : Fm) (ops : Array Oper) (tf : List Bool) (Ss : List (List AO)) (i : Nat) (o : Oper) (v : AV) (env : Env) (j j' : Nat) : Prop :=
  match tf.getD i false with
  | true => j' = j + 1 ∧ ∃ s s', Ss[j]? = some s ∧ Ss[j + 1]? = some s' ∧ (∀ d, o.dst = some d → d < N.n) ∧ o.guard = none ∧ OpS P o.op (evalE env) s v s'
  | false => j' = j ∧ ∀ s ∈ Ss, EYields P N ops s o v env
theorem evalE_other {env : Env} {o : Oper} {dst : Option Tmp} {u : AV} (h : ∀ d, dst = some d → d ∉ o.looksAt ops) : ∀ x ∈ o.op.operands, evalE (updO env dst u) x = evalE env x := fun x hx => by
  cases x with
  | tmp t =>
    refine updO_other fun d hd e => h d hd ?_
    subst e
    exact List.mem_append_left _ (List.mem_filterMap.2 ⟨.tmp d, by simpa using hx, rfl⟩)
  | _ => rfl
theorem Yt.keep {i : Nat} {o : Oper} {v : AV} {env : Env} {j j' : Nat} (hy : Yt P N ops tf Ss i o v env j j') {dst : Option Tmp} {u : AV} (h : ∀ d, dst = some d → d ∉ o.looksAt ops) : Yt P N ops tf Ss i o v (updO env dst u) j j' := by
  unfold Yt at *
  split at hy
  · obtain ⟨h1, s, s', h2, h3, h4, h5, h6⟩ := hy
    exact ⟨h1, s, s', h2, h3, h4, h5, h6.congr (evalE_other h)⟩
  · exact ⟨hy.1, fun s hs => (hy.2 s hs).keep h⟩
theorem Yt.drop {i : Nat} {o : Oper} {v : AV} {env : Env} {j j' : Nat} {dst : Option Tmp} {u : AV} (hy : Yt P N ops tf Ss i o v (updO env dst u) j j') (h : ∀ d, dst = some d → d ∉ o.looksAt ops) : Yt P N ops tf Ss i o v env j j' := by
  unfold Yt at *
  split at hy
  · obtain ⟨h1, s, s', h2, h3, h4, h5, h6⟩ := hy
    exact ⟨h1, s, s', h2, h3, h4, h5, h6.congr fun x hx => (evalE_other h x hx).symm⟩
  · exact ⟨hy.1, fun s hs => (hy.2 s hs).drop h⟩
end
section
variable (P : Program) (T : Tab) (N : Fm)
end
section
variable {P : Program} {T : Tab} {N : Fm} (hT : TabOk P T)
include hT
end
end Go.Proofs.Nw.K
end
section
/- K25: regions whose order is open: every order, one by one. -/
end
section
/- V3: open regions, without what goes without saying. -/
open Go Go.RowKit
namespace Go.Proofs.Nw.K
section
variable {P : Program} {T : Tab} {N : Fm} (hT : TabOk P T)
include hT
end
inductive PuK (P : Program) (T : Tab) (op : Op) (E : Operand → AV) (K : AV → Prop) : Prop
  | mk (w : AV) (h : ∀ st, cOp P T op E st fun v st' => v = w ∧ st' = st) (k : K w) : PuK P T op E K
section
variable (P : Program) (T : Tab) (N : Fm)
end
section
variable {P : Program} {T : Tab} {N : Fm} (hT : TabOk P T)
include hT
theorem PuK.out {op : Op} {E : Operand → AV} {K : AV → Prop} (h : PuK P T op E K) : ∃ w, (∀ st, OpS P op E st w st) ∧ K w := by
  obtain ⟨w, h, k⟩ := h
  refine ⟨w, fun st => ?_, k⟩
  obtain ⟨v, st', h1, rfl, rfl⟩ := cOp_sound P T hT (h st)
  exact h1
end
end Go.Proofs.Nw.K
end
section
/- K30: lists with known room behind them. -/
end
section
/- K31: append to a handle on the first ones of a row of one's own: in place. -/
open Go Go.RowKit
namespace Go.Proofs.Nw.K
inductive SrcT (st : List AO) : AV → Nat → List (List D) → Prop
  | src {a sz ys} (h : Src st a sz ys) : SrcT st a sz ys
  | tl {α : Type} {sz : Nat} {enc : α → List D} {z : α} {l : List α} {ys : List (List D)} (h : ys = l.map enc) : SrcT st (.d (.tl α sz enc z l)) sz ys
theorem SrcT.to {st : List AO} {σ : Sig} {gh : List Value} {u : Value} {a : AV} {sz : Nat} {ys : List (List D)} (h : SrcT st a sz ys) (hr : RepA σ gh st u a) : ∃ a', Src st a' sz ys ∧ RepA σ gh st u a' := by
  cases h with
  | src h => exact ⟨a, h, hr⟩
  | @tl α _ enc z l _ h =>
    subst h
    have hr : Rep σ u (.tl α sz enc z l) := hr
    cases hr with
    | tl hr => exact ⟨.list sz (l.map enc), .list, hr⟩
section
variable {P : Program} {E : Operand → AV} {st : List AO}
end
end Go.Proofs.Nw.K
end
section
/- K32: maps of one's own: keys of other kinds, any values. -/
open Go Go.RowKit Go.MapKept
namespace Go.Proofs.Nw.K
theorem eqStrs_iff : ∀ (a b : List ByteArray), a.length = b.length → eqStrs a b = decide (a = b)
  | [], [], _ => by simp [eqStrs]
  | x :: a, y :: b, h => by
    have ih := eqStrs_iff a b (by simpa using h)
    unfold eqStrs
    rw [ih]
    by_cases e : x = y
    · subst e; simp
    · have : (x.toList == y.toList) = false := by
        rw [beq_eq_false_iff_ne]
        intro e2
        exact e (by
          rw [ByteArray.toList_eq, ByteArray.toList_eq] at e2
          cases x; cases y; simp at e2; subst e2; rfl)
      rw [this]; simp [e]
  | [], _ :: _, h => by simp at h
  | _ :: _, [], h => by simp at h
section
universe u
variable {α : Type} {β : Type u} [DecidableEq α]
def fndM (k : α) : List (α × β) → Option Nat
  | [] => none
  | (a, _) :: r => if k = a then some 0 else (fndM k r).map (· + 1)
end
structure KeyR (P : Program) (kt : TypeId) {α : Type} [DecidableEq α] (kv : α → Value) : Prop where
  check : ∀ w em a, (Instr.checkKey em 10000 kt (kv a)).run P w = .ok () w
  find : ∀ w a (m : List (α × AV)) (es : List MapEntry) (n : Nat), es.length = m.length → (∀ (i : Nat) (me : MapEntry) p, es[i]? = some me → m[i]? = some p → me.key = kv p.1) →
    n = 0 → (fndM a m = none ∧ (Instr.findKey kt (kv a) es).run P w = .ok none w) ∨ ∃ i me, fndM a m = some i ∧ es[i]? = some me ∧ (Instr.findKey kt (kv a) es).run P w = .ok (some (i, me.val)) w
  stays : ∀ w a, (Instr.keyThatStays (kv a) (kv a)).run P w = .ok (kv a) w
theorem asking {P : Program} {kt : TypeId} {α : Type} [DecidableEq α] {kv : α → Value} (heq : ∀ w a b, (Op.equal kt (kv a) (kv b)).run P w = .ok (decide (a = b)) w) (w : World) (a : α) :
    ∀ (m : List (α × AV)) (es : List MapEntry) (n : Nat), es.length = m.length → (∀ (i : Nat) (me : MapEntry) p, es[i]? = some me → m[i]? = some p → me.key = kv p.1) →
      (fndM a m = none ∧ (Instr.findAsking kt (kv a) es n).run P w = .ok none w) ∨ ∃ i me, fndM a m = some i ∧ es[i]? = some me ∧ (Instr.findAsking kt (kv a) es n).run P w = .ok (some (n + i, me.val)) w
  | [], [], n, _, _ => .inl ⟨rfl, by simp [Instr.findAsking]⟩
  | (b, d) :: r, e :: es, n, hl, hk => by
    have h0 : e.key = kv b := hk 0 e (b, d) rfl rfl
    have h1 := heq w a b
    by_cases he : a = b
    · refine .inr ⟨0, e, by simp [fndM, he], rfl, ?_⟩
      rw [decide_eq_true he] at h1
      simp [Instr.findAsking, h0, h1]
    · rw [decide_eq_false he] at h1
      rcases asking heq w a r es (n + 1) (by simpa using hl) (fun i me p h1 h2 => hk (i + 1) me p (by simpa using h1) (by simpa using h2)) with ⟨h2, h3⟩ | ⟨i, me, h2, h3, h4⟩
      · exact .inl ⟨by simp [fndM, he, h2], by simp [Instr.findAsking, h0, h1, h3]⟩
      · exact .inr ⟨i + 1, me, by simp [fndM, he, h2], by simpa using h3, by simp [Instr.findAsking, h0, h1, h4]; omega⟩
  | [], _ :: _, _, hl, _ => by simp at hl
  | _ :: _, [], _, hl, _ => by simp at hl
theorem strFields_each {P : Program} : ∀ (fs : List Field) (n : Nat), strFields P n fs = true → ∀ f ∈ fs, f.name ≠ "_" ∧ P.underlying f.type = some .string ∧ f.offset < n + fs.length
  | [], _, _, f, hf => by cases hf
  | g :: fs, n, h, f, hf => by
    unfold strFields at h
    simp only [Bool.and_eq_true, bne_iff_ne, beq_iff_eq] at h
    obtain ⟨⟨⟨e1, e2⟩, e3⟩, e4⟩ := h
    rcases List.mem_cons.1 hf with rfl | hf
    · refine ⟨e1, ?_, by simp only [List.length_cons]; omega⟩
      split at e3
      · assumption
      · cases e3
    · obtain ⟨h1, h2, h3⟩ := strFields_each fs (n + 1) e4 f hf
      exact ⟨h1, h2, by simp only [List.length_cons]; omega⟩
theorem keyR_strs {P : Program} {kt : TypeId} {n : Nat} (ht : strStruct P kt = some n) {α : Type} [DecidableEq α] (ks : α → List ByteArray) (hl : ∀ a, (ks a).length = n) (inj : ∀ a b, ks a = ks b → a = b) :
    KeyR P kt (fun a => .agg ((ks a).map Value.string).toArray) := by
  unfold strStruct at ht
  split at ht <;> try cases ht
  rename_i fs hu
  split at ht <;> try cases ht
  rename_i hc
  simp only [Bool.and_eq_true, Bool.not_eq_true'] at hc
  obtain ⟨⟨c1, c2⟩, c3⟩ := hc
  have hS : P.underlying kt = some (.struct (P.fieldsOf kt)) := by simp [Program.fieldsOf, hu]
  have hfs : P.fieldsOf kt = fs := by simp [Program.fieldsOf, hu]
  have heq : ∀ w a b, (Op.equal kt (.agg ((ks a).map Value.string).toArray) (.agg ((ks b).map Value.string).toArray)).run P w = .ok (decide (a = b)) w := fun w a b => by
    have hr := eqFields_run (P := P) (w := w) 9998 fs.toList 0 [] [] (ks a) (ks b) c1 rfl rfl (by simpa using hl a) (by simpa using hl b)
    simp only [List.nil_append] at hr
    have e1 : eqStrs (ks a) (ks b) = decide (a = b) := by
      rw [eqStrs_iff _ _ (by rw [hl, hl])]
      exact decide_eq_decide.2 ⟨inj a b, fun e => by rw [e]⟩
    rw [e1] at hr
    unfold Op.equal Op.maxDepth
    rw [show (10000 : Nat) = 9999 + 1 from rfl, run_equalIn_agg w 9999 kt _ _ hS c2, hfs]; exact hr
  refine ⟨fun w em a => ?_, fun w a m es n h1 h2 h3 => ?_, fun w a => ?_⟩
  · have each := strFields_each fs.toList 0 c1
    have hcs : ∀ j, j < 0 + fs.toList.length → ∃ z, (((ks a).map Value.string).toArray)[j]? = some (.string z) := fun j hj => by
      have : j < (ks a).length := by rw [hl a]; simpa using hj
      exact ⟨(ks a)[j], by simp [this]⟩
    rw [show (10000 : Nat) = 9999 + 1 from rfl, Instr.checkKey]
    simp only [Sem.run_bind, run_underlying hu, Result.andThen_ok]
    rw [← Array.forIn_toList]
    have each2 : ∀ f ∈ fs.toList, f.name ≠ "_" ∧ P.underlying f.type = some .string ∧ ∃ z, (((ks a).map Value.string).toArray)[f.offset]? = some (.string z) := fun f hf => by
      obtain ⟨h1, h2, h3⟩ := each f hf
      exact ⟨h1, h2, hcs _ h3⟩
    clear each hcs
    generalize ((ks a).map Value.string).toArray = cs at each2 ⊢
    generalize fs.toList = L at each2
    induction L with
    | nil => simp
    | cons f L ih =>
      obtain ⟨hn, hs, z, hz⟩ := each2 f (by simp)
      have p1 : (part f.type cs f.offset).run P w = .ok (.string z) w := by
        simp only [part, isAgg, Sem.run_bind, run_underlying hs, Result.andThen_ok, Sem.run_pure, Bool.false_eq_true, if_false, hz]
      have p2 : (Instr.checkKey em 9999 f.type (.string z)).run P w = .ok () w := Go.MapKept.run_checkKey (d := .string) (k := .string z) hs trivial em 9998
      simp only [List.forIn_cons, Sem.run_bind, hn, ne_eq, not_false_eq_true, if_true, Result.andThen_ok, p1, p2, Sem.run_pure]
      exact ih (fun y hy => each2 y (by simp [hy]))
  · subst h3
    have hw : (match P.underlying kt with | some (.array _ _) | some (.struct _) => true | _ => false) = true := by rw [hu]
    rw [run_findKey_eq w hw]
    simpa using asking (kv := fun a => .agg ((ks a).map Value.string).toArray) heq w a m es 0 h1 h2
  · have hs : Instr.sameBits 10000 (.agg ((ks a).map Value.string).toArray) (.agg ((ks a).map Value.string).toArray) = true := by
      show Instr.sameBits (9999 + 1) _ _ = true
      simp only [Instr.sameBits, beq_self_eq_true, Bool.true_and, List.all_eq_true]
      intro p hp
      obtain ⟨i, hi, e⟩ := List.getElem_of_mem hp
      rw [List.getElem_zip] at e
      rw [← e]
      simp only [List.getElem_map, Instr.sameBits]
      exact (bytes_beq _ _).2 rfl
    simp [Instr.keyThatStays, hs]
section
variable {P : Program} {E : Operand → AV} {st : List AO} {α : Type} [DecidableEq α] {kv : α → Value} {kt e : TypeId} {zv : Value} {za : AV}
end
end Go.Proofs.Nw.K
end
