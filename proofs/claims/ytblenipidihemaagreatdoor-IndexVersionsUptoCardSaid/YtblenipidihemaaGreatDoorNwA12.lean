/- Bundle 12: NwK30, NwK31, NwK32, NwK33, NwK36, NwK34, NwZI1, NwZI2. -/
import Derived.Test.YtblenipidihemaaGreatDoorNwA11
import Derived.Laws.MakeOwn
import Derived.WideKeyRuns
section
/- K30: lists with known room behind them. -/
open Go Go.RowKit
set_option linter.unusedVariables false
set_option linter.unusedSimpArgs false
namespace Go.Proofs.Nw.K

theorem DLe.spl {sz n : Nat} {xs : List (List D)} : DLe (.one (.sp sz xs n)) (.one (.list sz (xs.take n))) := fun σ v h => by
  have h : Rep σ v (.sp sz xs n) := h
  show Rep σ v (.list sz (xs.take n))
  cases h with
  | @sp b off _ c _ _ val hn h0 hc hm hsz hcell hval =>
    have hl : (xs.take n).length = n := by rw [List.length_take]; omega
    by_cases hz : n = 0
    · subst hz
      exact .nil hm
    · refine .list val hl.symm (by omega) (by omega) hm (fun i x hx => hsz i x (by rw [List.getElem?_take] at hx; split at hx; exact hx; cases hx)) (fun i j hi hj => hcell i j (by omega) hj) (fun i j x d hx hd => hval i j x d (by rw [List.getElem?_take] at hx; split at hx; exact hx; cases hx) hd)
theorem DLe.sptl {α : Type} {sz n : Nat} {enc : α → List D} (z : α) {xs : List (List D)} {l : List α} (e : xs.take n = l.map enc) : DLe (.one (.sp sz xs n)) (.one (.tl α sz enc z l)) :=
  DLe.spl.trans (DLe.tl z e)

/-- a row of one's own, of which a handle shows the first ones, is given out: the others are the room behind -/
theorem Sub.shutSp {N : Fm} {env : Env} {st : List AO} (t : Nat) (s k n e sz : Nat) (xs : List (List D)) (h : env t = .h s k 0 n) (hst : st[s]? = some (.row k e sz xs)) (hn : n ≤ xs.length) (h0 : 0 < xs.length) : Sub N env st (upd env t (.d (.sp sz xs n))) (st.set s .gone) :=
  Sub.slot t _ fun w0 σ0 σ gh w u hb hu => by
    rw [h] at hu
    obtain ⟨g, hg, hR, A, c, hv⟩ := h_val hb hst hu
    obtain ⟨σ', hf, hrep⟩ := seal_row hb hst hg
    refine ⟨σ', gh, hf, ?_⟩
    show Rep σ' u (.sp sz xs n)
    cases hrep with
    | nil _ => simp at h0
    | @list b off m c' _ _ val hm h0' hc hmx hsz hcell hval =>
      subst hm
      obtain ⟨h0'', ⟨a1, a2, a3⟩ | ⟨b2, m2, c2, a1, a2, ⟨a3, a4, _⟩ | a3⟩⟩ := hR
      · rw [a3, a2]
        exact .sp val (by omega) h0 (by omega) hmx hsz hcell hval
      · omega
      · cases a1
        rw [a3, Nat.zero_mul]
        exact .sp val hn h0 (by omega) hmx hsz hcell hval

section
variable {P : Program} {E : Operand → AV} {st : List AO}

theorem op_slice_sp (t e : TypeId) (sz : Nat) (x : Operand) (hi : Operand) (h n : Nat) (xs : List (List D)) (ht : elT P t = some (e, sz)) (hx : E x = .d (.sp sz xs n))
    (hh : E hi = .int h) (h2 : h ≤ xs.length) : OpS P (.slice t x none (some hi) none) E st (.list sz (xs.take h)) st :=
  op_pure fun o ho w0 σ0 σ gh ρ w hb hρ => by
    have h3 := hρ x (by simp [Op.operands])
    rw [hx] at h3
    have h4 := hρ hi (by simp [Op.operands])
    rw [hh] at h4
    have h4 := RepA_sc h4
    obtain ⟨hu, i, hi', hs⟩ := elT_spec ht
    have h3 : Rep σ (ρ x) (.sp sz xs n) := h3
    have hle : ∀ v, Rep σ v (.sp sz xs h) → Rep σ v (.list sz (xs.take h)) := fun v hv => DLe.spl σ v hv
    generalize hrx : ρ x = v at h3
    cases h3 with
    | @sp b off _ c _ _ val hn h0 hc hm hsz hcell hval =>
      have hrun := run_sliceAt (P := P) (ρ := ρ) (w := w) hu sz (by simp [sizeOf, typeInfo, hi', hs]) (some ⟨b, off, none⟩) n c none (some hi) 0 h rfl ⟨h, h4, by omega, by simp⟩ (Nat.zero_le _) (by omega)
      refine ⟨.slice (some ⟨b, off, none⟩) h c, ?_, hle _ (.sp val h2 h0 hc hm hsz hcell hval)⟩
      simp only [execOp, ho, hrx]
      simp only [Option.map] at hrun ⊢
      simp [hrun, Addr.add]

theorem op_cap_sp (t : TypeId) (x : Operand) (sz n e : Nat) (xs : List (List D)) (hu : P.underlying t = some (.slice e)) (hx : E x = .d (.sp sz xs n)) {V : AV → List AO → Prop} (hV : ∀ c : Nat, xs.length ≤ c → c ≤ maxLen → V (.int c) st) :
    OpN P (.call { callee := .builtin .cap, args := #[x], argTypes := #[t] }) E st V := by
  intro o ho w0 σ0 σ gh ρ w hb hρ
  have h3 := hρ x (by simp [Op.operands, Call.operands])
  rw [hx] at h3
  have h3 : Rep σ (ρ x) (.sp sz xs n) := h3
  generalize hrx : ρ x = v at h3
  cases h3 with
  | @sp b off _ c _ _ val hn h0 hc hm hsz hcell hval =>
    refine ⟨.int c, st, hV c hc hm, ?_⟩
    have hrun : (execOp ρ o).run P w = .ok (.value (.int .i64 c)) w := by
      simp [execOp, ho, resolve, invoke, builtin, hrx, Builtin.cap_, run_underlying hu, goInt, Result.andThen]
    rw [hrun]
    exact ⟨σ, gh, .refl hb, RepA_of_sc rfl⟩

/-- beyond what a handle shows, within its row -/
theorem op_slice_hm (t e : TypeId) (sz : Nat) (x hi : Operand) (h s k n e' : Nat) (xs : List (List D)) (ht : elT P t = some (e, sz)) (hx : E x = .h s k 0 n) (hst : st[s]? = some (.row k e' sz xs))
    (hh : E hi = .int h) (h0 : 0 < xs.length) (h2 : h ≤ xs.length) : OpS P (.slice t x none (some hi) none) E st (.h s k 0 h) st :=
  op_pure fun o ho w0 σ0 σ gh ρ w hb hρ => by
    have h3 := hρ x (by simp [Op.operands])
    rw [hx] at h3
    have h4 := hρ hi (by simp [Op.operands])
    rw [hh] at h4
    have h4 := RepA_sc h4
    obtain ⟨hu, i, hi', hs⟩ := elT_spec ht
    obtain ⟨g, hg, hR, A, c, hv⟩ := h_val hb hst h3
    obtain ⟨vals, hown, _⟩ := hb.obj s _ _ hst hg
    rcases hown.2 with ⟨e1, e2⟩ | ⟨b, cap, cur, e1, e2, e3, e4, e5⟩
    · omega
    have hval : ρ x = .slice (some ⟨b, 0, none⟩) n cap := by
      obtain ⟨h0, ⟨a1, a2, a3⟩ | ⟨b2, m2, c2, a1, a2, ⟨a3, a4, _⟩ | a3⟩⟩ := hR
      · rw [a3, e1, a2]
      · omega
      · rw [e1] at a1; cases a1; rw [a3, Nat.zero_mul, Nat.sub_zero]
    have hrun := run_sliceAt (P := P) (ρ := ρ) (w := w) hu sz (by simp [sizeOf, typeInfo, hi', hs]) (some ⟨b, 0, none⟩) n cap none (some hi) 0 h rfl ⟨h, h4, by omega, by simp⟩ (Nat.zero_le _) (by omega)
    refine ⟨.slice (some ⟨b, 0, none⟩) h cap, ?_, g, _, hg, hst, fun k' e2 sz2 xs2 heq => ?_⟩
    · simp only [execOp, ho, hval]
      simp only [Option.map] at hrun ⊢
      simp [hrun, Addr.add]
    · cases heq
      exact ⟨Nat.le_refl _, fun _ => ⟨by omega, .inr ⟨b, xs.length, cap, e1, by omega, .inr (by rw [Nat.zero_mul, Nat.sub_zero])⟩⟩⟩

/-- a new row, nothing of which is shown yet -/
theorem op_makeSlice0 (t e : TypeId) (sz by_ : Nat) (l c : Operand) (N : Nat) (zs : List D) (ht : appT P t = some (e, sz, by_)) (hz : zeroD P e = some zs) (hl : E l = .int 0) (hc : E c = .int N) (hN : 0 < N) (hM : N ≤ maxLen) (hb1 : by_ * N ≤ 281474976710656) :
    OpS P (.makeSlice t l c) E st (.h st.length 0 0 0) (st ++ [.row 0 e sz (List.replicate N zs)]) := by
  intro o ho w0 σ0 σ gh ρ w hb hρ
  have h1 := RepA_sc (hl ▸ hρ l (by simp [Op.operands]) : RepA σ gh st (ρ l) (.int 0))
  have h2 := RepA_sc (hc ▸ hρ c (by simp [Op.operands]) : RepA σ gh st (ρ c) (.int N))
  obtain ⟨hu, i, z, hi, hiz, hsz, hby, hzs, hpos⟩ := appT_spec ht
  obtain ⟨i2, z2, hi2, hiz2, hrz⟩ := zeroD_spec hz
  rw [hi] at hi2; cases hi2
  rw [hiz] at hiz2; cases hiz2
  have hm : (N : Int) ≤ 9223372036854775807 := by simp only [maxLen] at hM; omega
  have hb2 : (i.bytes : Int) * (N : Int) ≤ 281474976710656 := by
    rw [hby]
    have : ((by_ * N : Nat) : Int) ≤ 281474976710656 := by omega
    rwa [Int.natCast_mul] at this
  have hr := run_make (P := P) w t e i z hu hi hiz .i64 .i64 0 N (Int.le_refl _) (by omega) hb2 hm
  simp only [Int.toNat_zero, Int.toNat_natCast, hsz] at hr
  have hrun : (execOp ρ o).run P w = .ok (.value (.slice (some ⟨w.heap.size, 0, none⟩) 0 N)) (w.alloc (.cells (madeCells z.cells (N * sz)) e)) := by
    simp [execOp, ho, h1, h2, hr, Result.andThen]
  rw [hrun]
  have hms : (madeCells z.cells (N * sz)).size = N * sz := size_madeCells _ _
  have hget : ∀ i j, i < N → j < sz → (madeCells z.cells (N * sz)).toList[i * sz + j]? = z.cells[j]? := fun i j hi hj => by
    have hlt : i * sz + j < N * sz := by
      calc i * sz + j < i * sz + sz := by omega
        _ = (i + 1) * sz := by rw [Nat.add_mul]; omega
        _ ≤ N * sz := Nat.mul_le_mul_right _ (by omega)
    have hmod : (i * sz + j) % sz = j := by rw [Nat.mul_comm, Nat.mul_add_mod, Nat.mod_eq_of_lt hj]
    have hj2 : j < z.cells.size := by omega
    simp only [madeCells, Array.getElem?_toList]
    simp [hlt, hzs, hmod, hj2]
    rw [getElem!_pos z.cells j hj2, Array.getElem?_eq_getElem hj2]
  have hzl : zs.length = sz := by have := (hrz σ).1; simp at this; omega
  have hrep : ∀ {i : Nat} {x : List D}, (List.replicate N zs)[i]? = some x → i < N ∧ zs = x := fun {i x} hx => by
    rw [List.getElem?_replicate] at hx
    split at hx
    · cases hx; exact ⟨by assumption, rfl⟩
    · cases hx
  have hf := hb.push (w' := w.alloc (.cells (madeCells z.cells (N * sz)) e)) (World.grownBy_alloc w _ none) (.slice (some ⟨w.heap.size, 0, none⟩) N N) (.row 0 e sz (List.replicate N zs)) (fun b h => by
      simp only [blkOf, Option.some.injEq] at h; subst h; simp)
    ⟨(madeCells z.cells (N * sz)).toList, by
      rw [List.length_replicate]
      exact ⟨by simpa using hms, .inr ⟨w.heap.size, N, _, rfl, hb.below.size, heap_alloc_new w _, Nat.le_refl _, hM, hms, List.take_of_length_le (by simp [hms])⟩⟩, fun i x hx => by
      obtain ⟨_, rfl⟩ := hrep hx
      exact hzl, fun i j x d hx hd => by
      obtain ⟨hiN, rfl⟩ := hrep hx
      have hj : j < sz := by rw [← hzl]; exact (List.getElem?_eq_some_iff.1 hd).1
      have hj2 : j < z.cells.size := by omega
      refine ⟨z.cells[j], by rw [hget i j hiN hj]; simp [hj2], (hrz σ).2 j _ d (by simp [hj2]) hd⟩, fun b hb' => by
      simp only [blkOf, Option.some.injEq] at hb'
      subst hb'
      exact hb.sl.fresh (Nat.le_refl _), fun v hv => ?_⟩
  · refine ⟨σ, _, hf, .slice (some ⟨w.heap.size, 0, none⟩) N N, _, by rw [← hb.len]; simp, by simp; rfl, fun k' e' sz' xs' heq => ?_⟩
    cases heq
    refine ⟨Nat.le_refl _, fun _ => ⟨by simp, .inr ⟨w.heap.size, N, N, rfl, by omega, .inr (by rw [Nat.zero_mul, Nat.sub_zero])⟩⟩⟩
  · simp only [madeCells, Array.toList_map, List.mem_map] at hv
    obtain ⟨q, _, rfl⟩ := hv
    have hq : q % z.cells.size < z.cells.size := Nat.mod_lt _ (by omega)
    rw [getElem!_pos z.cells _ hq]
    have hd : (z.cells.toList)[q % z.cells.size]? = some z.cells[q % z.cells.size] := by simp [hq]
    obtain ⟨d, hd2⟩ : ∃ d, zs[q % z.cells.size]? = some d := ⟨zs[q % z.cells.size]'(by omega), by simp⟩
    have := (hrz σ).2 _ _ d hd hd2
    exact this.one
end
end Go.Proofs.Nw.K
end
section
/- K31: append to a handle on the first ones of a row of one's own: in place. -/
open Go Go.RowKit
set_option linter.unusedVariables false
set_option linter.unusedSimpArgs false
namespace Go.Proofs.Nw.K

theorem RepA.bump {σ : Sig} {gh : List Value} {st : List AO} {s k e sz : Nat} {xs xs' : List (List D)} {g g' : Value} (hst : st[s]? = some (.row k e sz xs)) (hgs : gh[s]? = some g)
    (notptr : ∀ b, g ≠ .pointer (some b)) (notmap : ∀ b, g ≠ .map (some b)) : ∀ v a, RepA σ gh st v a → RepA σ (gh.set s g') (st.set s (.row (k + 1) e sz xs')) v a := by
  intro v a ha
  have hslt : s < st.length := (List.getElem?_eq_some_iff.1 hst).1
  have hgl : s < gh.length := (List.getElem?_eq_some_iff.1 hgs).1
  have lookg : ∀ (t : Nat) g1, gh[t]? = some g1 → t ≠ s → (gh.set s g')[t]? = some g1 := fun t g1 h h' => by rw [List.getElem?_set, if_neg (fun e => h' e.symm)]; exact h
  have looks : ∀ (t : Nat) o1, st[t]? = some o1 → t ≠ s → (st.set s (.row (k + 1) e sz xs'))[t]? = some o1 := fun t o1 h h' => by rw [List.getElem?_set, if_neg (fun e => h' e.symm)]; exact h
  cases a with
  | v x => exact ha
  | ptr t off =>
    obtain ⟨b, a1, a2⟩ := ha
    refine ⟨b, lookg _ _ a1 (fun e => ?_), a2⟩
    subst e; rw [hgs] at a1; cases a1; exact notptr _ rfl
  | h t k2 lo2 n2 =>
    obtain ⟨g1, o1, a1, a2, a3⟩ := ha
    by_cases et : t = s
    · subst et
      rw [hst] at a2
      cases a2
      refine ⟨g', _, by simp [hgl], by simp [hslt]; rfl, fun k' e' sz' xs2 heq => ?_⟩
      cases heq
      have := (a3 _ _ _ _ rfl).1
      exact ⟨by omega, fun e => by omega⟩
    · exact ⟨g1, o1, lookg _ _ a1 et, looks _ _ a2 et, a3⟩
  | ep t k2 i2 off2 =>
    obtain ⟨g1, o1, a1, a2, a3⟩ := ha
    by_cases et : t = s
    · subst et
      rw [hst] at a2
      cases a2
      refine ⟨g', _, by simp [hgl], by simp [hslt]; rfl, fun k' e' sz' xs2 heq => ?_⟩
      cases heq
      have := (a3 _ _ _ _ rfl).1
      exact ⟨by omega, fun e => by omega⟩
    · exact ⟨g1, o1, lookg _ _ a1 et, looks _ _ a2 et, a3⟩
  | omap t =>
    obtain ⟨a1, r, a2⟩ := ha
    refine ⟨lookg _ _ a1 (fun e => ?_), r, a2⟩
    subst e; rw [hgs] at a1; cases a1; exact notmap _ a2
  | tup vs => exact ha
  | bs t n2 =>
    obtain ⟨b, c2, a1, a2⟩ := ha
    refine ⟨b, c2, lookg _ _ a1 (fun e => ?_), a2⟩
    subst e; rw [hgs] at a1; cases a1; exact notptr _ rfl
  | clo f caps =>
    obtain ⟨us, a1, a2, a3⟩ := ha
    refine ⟨us, a1, a2, fun i u t hu ht' => ?_⟩
    obtain ⟨b1, b, b2⟩ := a3 i u t hu ht'
    refine ⟨lookg _ _ b1 (fun e => ?_), b, b2⟩
    subst e; rw [hgs] at b1; cases b1; exact notptr _ b2
  | pkg cs =>
    obtain ⟨us, a1, a2, a3⟩ := ha
    refine ⟨us, a1, a2, fun i u c hu hc => (a3 i u c hu hc).map (fun s2 e2 e3 ⟨r, e4⟩ => ?_) ⟨fun _ _ _ h => h, fun _ _ h => h⟩⟩
    refine lookg _ _ e3 (fun e => ?_)
    subst e; rw [hgs] at e3; cases e3; exact notmap _ e4
  | junk => trivial

/-- a source that is a typed list -/
inductive SrcT (st : List AO) : AV → Nat → List (List D) → Prop
  | src {a sz ys} (h : Src st a sz ys) : SrcT st a sz ys
  | tl {α : Type} {sz : Nat} {enc : α → List D} {z : α} {l : List α} {ys : List (List D)} (h : ys = l.map enc) : SrcT st (.d (.tl α sz enc z l)) sz ys
theorem SrcT.to {st : List AO} {σ : Sig} {gh : List Value} {u : Value} {a : AV} {sz : Nat} {ys : List (List D)} (h : SrcT st a sz ys) (hr : RepA σ gh st u a) : ∃ a', Src st a' sz ys ∧ RepA σ gh st u a' := by
  cases h with
  | src h => exact ⟨a, h, hr⟩
  | @tl α _ enc z l _ h =>
    subst h
    have hr : Rep σ u (.tl α sz enc z l) := hr
    cases hr with
    | tl hr => exact ⟨.list sz (l.map enc), .list, hr⟩

section
variable {P : Program} {E : Operand → AV} {st : List AO}
theorem op_append_in (t e : TypeId) (sz by_ : Nat) (x y : Operand) (s k n : Nat) (xs ys : List (List D)) (ht : appT P t = some (e, sz, by_)) (hx : E x = .h s k 0 n) (hst : st[s]? = some (.row k e sz xs)) (hy : SrcT st (E y) sz ys)
    (h0 : 0 < xs.length) (hfit : n + ys.length ≤ xs.length) :
    OpS P (.call { callee := .builtin .append, args := #[x, y], argTypes := #[t, t] }) E st (.h s (k + 1) 0 (n + ys.length)) (st.set s (.row (k + 1) e sz (xs.take n ++ ys ++ xs.drop (n + ys.length)))) := by
  intro o ho w0 σ0 σ gh ρ w hb hρ
  have h1 := hρ x (by simp [Op.operands, Call.operands])
  have h2 := hρ y (by simp [Op.operands, Call.operands])
  rw [hx] at h1
  obtain ⟨hu, i, z, hi, hz, hsz', hby, hzs, hpos⟩ := appT_spec ht
  obtain ⟨g, hgs, hR, A, c, hv⟩ := h_val hb hst h1
  obtain ⟨vals, hown, hsz, hval, huns, hone⟩ := hb.obj s _ _ hst hgs
  have hslt : s < st.length := (List.getElem?_eq_some_iff.1 hst).1
  rcases hown.2 with ⟨e1, e2⟩ | ⟨b, cap, cur, e1, hbb, hheap, hnc, hcm, hcs, htake⟩
  · omega
  have hvx : ρ x = .slice (some ⟨b, 0, none⟩) n cap := by
    obtain ⟨h0, ⟨a1, a2, a3⟩ | ⟨b2, m2, c2, a1, a2, ⟨a3, a4, _⟩ | a3⟩⟩ := hR
    · rw [a3, e1, a2]
    · omega
    · rw [e1] at a1; cases a1; rw [a3, Nat.zero_mul, Nat.sub_zero]
  have hmul : (n + ys.length) * sz ≤ xs.length * sz := Nat.mul_le_mul_right _ hfit
  have hmul2 : n * sz ≤ (n + ys.length) * sz := Nat.mul_le_mul_right _ (by omega)
  have hmul3 : xs.length * sz ≤ cur.size := by rw [hcs]; exact Nat.mul_le_mul_right _ hnc
  have hvl : vals.length = xs.length * sz := hown.1
  have key : ∃ w' news cur', (Builtin.append_ #[t, t] o.type #[ρ x, ρ y]).run P w = .ok (.slice (some ⟨b, 0, none⟩) (n + ys.length) cap) w' ∧ w'.heap[b]? = some (.cells cur' e (0, 0)) ∧ cur'.size = cur.size ∧
      cur'.toList.take (xs.length * sz) = vals.take (n * sz) ++ news ++ vals.drop ((n + ys.length) * sz) ∧ RepRows σ news sz ys ∧ news.length = ys.length * sz ∧ (∀ v ∈ news, v.oneCell' = true) ∧ w.grownBy w' (some b) := by
    obtain ⟨a', hy', h2'⟩ := hy.to h2
    obtain ⟨A', c', hvy, hc⟩ := src_cells hb h2' hy'
    rcases hc with hnil | ⟨ad, news, hA, hl, hnews, hone2, hrows⟩
    · subst hnil
      have hfc : (Builtin.firstCells sz 0 (.slice A' 0 c')).run P w = .ok #[] w := by
        cases A' <;> simp [Builtin.firstCells, loadCells, loadCellsFrom]
      have hn' : n ≤ cap := by simp at hfit; omega
      refine ⟨w, [], cur, ?_, hheap, rfl, ?_, ⟨fun i x hx => by simp at hx, fun i j x d hx => by simp at hx⟩, by simp, by simp, ⟨rfl, rfl, rfl, Nat.le_refl _, fun _ _ _ => rfl⟩⟩
      · rw [hvx, hvy]
        simp [Builtin.append_, run_underlying hu, sizeOf, typeInfo, hi, hsz', Builtin.lenOf, hn', hfc, storeCells]
      · rw [htake]; simp
    · have hr := run_append_room (P := P) w t o.type e i hu hi b n cap cur hheap ad ys.length c' news (by rw [hsz']; exact hl) hnews hone2 (by omega) (by rw [hsz', hl, ← Nat.add_mul]; omega)
      rw [hsz'] at hr
      refine ⟨_, news, _, by rw [hvx, hvy, hA]; exact hr, setRow_heap w b cur _ e _ hheap, ?_, ?_, hrows, hl, hone2, ⟨rfl, rfl, rfl, by simp, fun k _ hk => setRow_other w b k _ (fun e => hk (by rw [e]))⟩⟩
      · have : n * sz + news.length = (n + ys.length) * sz := by rw [hl, Nat.add_mul]
        simp only [List.size_toArray, List.length_append, List.length_take, List.length_drop, Array.length_toList]
        omega
      · have hnl : n * sz + news.length = (n + ys.length) * sz := by rw [hl, Nat.add_mul]
        have l1 : (cur.toList.take (n * sz)).length = n * sz := by rw [List.length_take, Array.length_toList]; omega
        have l2 : (cur.toList.take (n * sz) ++ news).length = (n + ys.length) * sz := by rw [List.length_append, l1, hnl]
        show ((cur.toList.take (n * sz) ++ news ++ cur.toList.drop (n * sz + news.length)).toArray.toList).take (xs.length * sz) = _
        rw [List.toList_toArray, List.take_append, l2, List.take_of_length_le (by rw [l2]; exact hmul), hnl, ← htake, List.drop_take, List.take_take, Nat.min_eq_left (by omega)]
  obtain ⟨w', news, cur', hr, hheap', hcs', htake', hrows, hnl, hone2, hg⟩ := key
  have hrun : (execOp ρ o).run P w = .ok (.value (.slice (some ⟨b, 0, none⟩) (n + ys.length) cap)) w' := by
    simp [execOp, ho, resolve, invoke, builtin, hr]
  rw [hrun]
  have hset : gh.set s g = gh := set_self hgs
  have keep : ∀ v a, RepA σ gh st v a → RepA σ (gh.set s g) (st.set s (.row (k + 1) e sz (xs.take n ++ ys ++ xs.drop (n + ys.length)))) v a :=
    RepA.bump hst hgs (fun b h => by rw [e1] at h; cases h) (fun b h => by rw [e1] at h; cases h)
  have hlen : (xs.take n ++ ys ++ xs.drop (n + ys.length)).length = xs.length := by simp; omega
  have hbk : blkOf g = some b := by rw [e1]; rfl
  have hrr : RepRows σ (vals.take (n * sz) ++ news ++ vals.drop ((n + ys.length) * sz)) sz (xs.take n ++ ys ++ xs.drop (n + ys.length)) := by
    have l1 : (vals.take (n * sz)).length = (xs.take n).length * sz := by rw [List.length_take, List.length_take, hvl, Nat.min_eq_left (by omega), Nat.min_eq_left (by omega)]
    refine ((RepRows.take ⟨hsz, hval⟩ n).append l1 hrows).append ?_ (RepRows.drop ⟨hsz, hval⟩ _)
    rw [List.length_append, l1, hnl, List.length_append, Nat.add_mul]
  have hf := hb.turn (w' := w') hst hgs (by simp) (by rw [hbk]; exact hg) g (.row (k + 1) e sz (xs.take n ++ ys ++ xs.drop (n + ys.length))) (fun b' hb' => .inl hb')
    ⟨vals.take (n * sz) ++ news ++ vals.drop ((n + ys.length) * sz), by
      rw [hlen]
      refine ⟨?_, .inr ⟨b, cap, cur', e1, hbb, hheap', hnc, hcm, by rw [hcs', hcs], htake'⟩⟩
      rw [List.length_append, List.length_append, List.length_take, List.length_drop, hnl, hvl]
      rw [Nat.add_mul] at hmul hmul2 ⊢
      omega, hrr.1, hrr.2, huns, fun v hv' => by
      rcases List.mem_append.1 hv' with h | h
      · rcases List.mem_append.1 h with h | h
        · exact hone v (List.mem_of_mem_take h)
        · exact hone2 v h
      · exact hone v (List.mem_of_mem_drop h)⟩ keep (run_drawn P _ _ hr)
  refine ⟨σ, _, hf, g, .row (k + 1) e sz (xs.take n ++ ys ++ xs.drop (n + ys.length)), by rw [hset]; exact hgs, by rw [List.getElem?_set_self hslt], fun k' e' sz' xs' heq => ?_⟩
  cases heq
  refine ⟨Nat.le_refl _, fun _ => ⟨by rw [hlen]; omega, .inr ⟨b, xs.length, cap, e1, by omega, .inr (by rw [Nat.zero_mul, Nat.sub_zero])⟩⟩⟩
end
end Go.Proofs.Nw.K
end
section
/- K32: maps of one's own: keys of other kinds, any values. -/
open Go Go.RowKit Go.MapKept
set_option linter.unusedVariables false
set_option linter.unusedSimpArgs false
namespace Go.Proofs.Nw.K

theorem eqStrs_iff : ∀ (a b : List ByteArray), a.length = b.length → eqStrs a b = decide (a = b)
  | [], [], _ => by simp [eqStrs]
  | x :: a, y :: b, h => by
    have ih := eqStrs_iff a b (by simpa using h)
    unfold eqStrs
    rw [ih]
    by_cases e : x = y
    · subst e; simp
    · have : (x.toList == y.toList) = false := by
        rw [beq_eq_false_iff_ne]
        intro e2
        exact e (by
          rw [ByteArray.toList_eq, ByteArray.toList_eq] at e2
          cases x; cases y; simp at e2; subst e2; rfl)
      rw [this]; simp [e]
  | [], _ :: _, h => by simp at h
  | _ :: _, [], h => by simp at h

section
universe u
variable {α : Type} {β : Type u} [DecidableEq α]
def fndM (k : α) : List (α × β) → Option Nat
  | [] => none
  | (a, _) :: r => if k = a then some 0 else (fndM k r).map (· + 1)
def lookM (z : β) (k : α) : List (α × β) → β
  | [] => z
  | (a, d) :: r => if k = a then d else lookM z k r
def updM (k : α) (d : β) : List (α × β) → List (α × β)
  | [] => [(k, d)]
  | (a, x) :: r => if k = a then (a, d) :: r else (a, x) :: updM k d r
theorem fndM_none {k : α} {z d : β} : ∀ {l : List (α × β)}, fndM k l = none → lookM z k l = z ∧ updM k d l = l ++ [(k, d)] ∧ ∀ p ∈ l, p.1 ≠ k
  | [], _ => ⟨rfl, rfl, fun p h => by cases h⟩
  | (a, x) :: r, h => by
    unfold fndM at h
    split at h
    · cases h
    · rename_i hne
      have := fndM_none (z := z) (d := d) (l := r) (by simpa using h)
      refine ⟨by simp only [lookM, if_neg hne]; exact this.1, by simp only [updM, if_neg hne, this.2.1]; rfl, fun p hp => ?_⟩
      rcases List.mem_cons.1 hp with rfl | hp
      · exact fun e => hne e.symm
      · exact this.2.2 p hp
theorem fndM_some {k : α} {z d : β} : ∀ {l : List (α × β)} {i : Nat}, fndM k l = some i → ∃ x, l[i]? = some (k, x) ∧ lookM z k l = x ∧ updM k d l = l.set i (k, d)
  | [], i, h => by cases h
  | (a, x) :: r, i, h => by
    unfold fndM at h
    split at h
    · rename_i he
      cases h
      subst he
      exact ⟨x, rfl, by simp [lookM], by simp [updM]⟩
    · rename_i hne
      obtain ⟨j, hj, rfl⟩ := Option.map_eq_some_iff.1 h
      obtain ⟨y, h1, h2, h3⟩ := fndM_some (z := z) (d := d) hj
      exact ⟨y, by simpa using h1, by simp only [lookM, if_neg hne]; exact h2, by simp only [updM, if_neg hne, h3]; rfl⟩
end

/-- what keys of a type come to -/
structure KeyR (P : Program) (kt : TypeId) {α : Type} [DecidableEq α] (kv : α → Value) : Prop where
  check : ∀ w em a, (Instr.checkKey em 10000 kt (kv a)).run P w = .ok () w
  find : ∀ w a (m : List (α × AV)) (es : List MapEntry) (n : Nat), es.length = m.length → (∀ (i : Nat) (me : MapEntry) p, es[i]? = some me → m[i]? = some p → me.key = kv p.1) →
    n = 0 → (fndM a m = none ∧ (Instr.findKey kt (kv a) es).run P w = .ok none w) ∨ ∃ i me, fndM a m = some i ∧ es[i]? = some me ∧ (Instr.findKey kt (kv a) es).run P w = .ok (some (i, me.val)) w
  stays : ∀ w a, (Instr.keyThatStays (kv a) (kv a)).run P w = .ok (kv a) w

theorem asking {P : Program} {kt : TypeId} {α : Type} [DecidableEq α] {kv : α → Value} (heq : ∀ w a b, (Op.equal kt (kv a) (kv b)).run P w = .ok (decide (a = b)) w) (w : World) (a : α) :
    ∀ (m : List (α × AV)) (es : List MapEntry) (n : Nat), es.length = m.length → (∀ (i : Nat) (me : MapEntry) p, es[i]? = some me → m[i]? = some p → me.key = kv p.1) →
      (fndM a m = none ∧ (Instr.findAsking kt (kv a) es n).run P w = .ok none w) ∨ ∃ i me, fndM a m = some i ∧ es[i]? = some me ∧ (Instr.findAsking kt (kv a) es n).run P w = .ok (some (n + i, me.val)) w
  | [], [], n, _, _ => .inl ⟨rfl, by simp [Instr.findAsking]⟩
  | (b, d) :: r, e :: es, n, hl, hk => by
    have h0 : e.key = kv b := hk 0 e (b, d) rfl rfl
    have h1 := heq w a b
    by_cases he : a = b
    · refine .inr ⟨0, e, by simp [fndM, he], rfl, ?_⟩
      rw [decide_eq_true he] at h1
      simp [Instr.findAsking, h0, h1]
    · rw [decide_eq_false he] at h1
      rcases asking heq w a r es (n + 1) (by simpa using hl) (fun i me p h1 h2 => hk (i + 1) me p (by simpa using h1) (by simpa using h2)) with ⟨h2, h3⟩ | ⟨i, me, h2, h3, h4⟩
      · exact .inl ⟨by simp [fndM, he, h2], by simp [Instr.findAsking, h0, h1, h3]⟩
      · exact .inr ⟨i + 1, me, by simp [fndM, he, h2], by simpa using h3, by simp [Instr.findAsking, h0, h1, h4]; omega⟩
  | [], _ :: _, _, hl, _ => by simp at hl
  | _ :: _, [], _, hl, _ => by simp at hl

theorem strFields_each {P : Program} : ∀ (fs : List Field) (n : Nat), strFields P n fs = true → ∀ f ∈ fs, f.name ≠ "_" ∧ P.underlying f.type = some .string ∧ f.offset < n + fs.length
  | [], _, _, f, hf => by cases hf
  | g :: fs, n, h, f, hf => by
    unfold strFields at h
    simp only [Bool.and_eq_true, bne_iff_ne, beq_iff_eq] at h
    obtain ⟨⟨⟨e1, e2⟩, e3⟩, e4⟩ := h
    rcases List.mem_cons.1 hf with rfl | hf
    · refine ⟨e1, ?_, by simp only [List.length_cons]; omega⟩
      split at e3
      · assumption
      · cases e3
    · obtain ⟨h1, h2, h3⟩ := strFields_each fs (n + 1) e4 f hf
      exact ⟨h1, h2, by simp only [List.length_cons]; omega⟩

theorem keyR_strs {P : Program} {kt : TypeId} {n : Nat} (ht : strStruct P kt = some n) {α : Type} [DecidableEq α] (ks : α → List ByteArray) (hl : ∀ a, (ks a).length = n) (inj : ∀ a b, ks a = ks b → a = b) :
    KeyR P kt (fun a => .agg ((ks a).map Value.string).toArray) := by
  unfold strStruct at ht
  split at ht <;> try cases ht
  rename_i fs hu
  split at ht <;> try cases ht
  rename_i hc
  simp only [Bool.and_eq_true, Bool.not_eq_true'] at hc
  obtain ⟨⟨c1, c2⟩, c3⟩ := hc
  have hS : P.underlying kt = some (.struct (P.fieldsOf kt)) := by simp [Program.fieldsOf, hu]
  have hfs : P.fieldsOf kt = fs := by simp [Program.fieldsOf, hu]
  have heq : ∀ w a b, (Op.equal kt (.agg ((ks a).map Value.string).toArray) (.agg ((ks b).map Value.string).toArray)).run P w = .ok (decide (a = b)) w := fun w a b => by
    have hr := eqFields_run (P := P) (w := w) 9998 fs.toList 0 [] [] (ks a) (ks b) c1 rfl rfl (by simpa using hl a) (by simpa using hl b)
    simp only [List.nil_append] at hr
    have e1 : eqStrs (ks a) (ks b) = decide (a = b) := by
      rw [eqStrs_iff _ _ (by rw [hl, hl])]
      exact decide_eq_decide.2 ⟨inj a b, fun e => by rw [e]⟩
    rw [e1] at hr
    unfold Op.equal Op.maxDepth
    rw [show (10000 : Nat) = 9999 + 1 from rfl, run_equalIn_agg w 9999 kt _ _ hS c2, hfs]; exact hr
  refine ⟨fun w em a => ?_, fun w a m es n h1 h2 h3 => ?_, fun w a => ?_⟩
  · have each := strFields_each fs.toList 0 c1
    have hcs : ∀ j, j < 0 + fs.toList.length → ∃ z, (((ks a).map Value.string).toArray)[j]? = some (.string z) := fun j hj => by
      have : j < (ks a).length := by rw [hl a]; simpa using hj
      exact ⟨(ks a)[j], by simp [this]⟩
    rw [show (10000 : Nat) = 9999 + 1 from rfl, Instr.checkKey]
    simp only [Sem.run_bind, run_underlying hu, Result.andThen_ok]
    rw [← Array.forIn_toList]
    have each2 : ∀ f ∈ fs.toList, f.name ≠ "_" ∧ P.underlying f.type = some .string ∧ ∃ z, (((ks a).map Value.string).toArray)[f.offset]? = some (.string z) := fun f hf => by
      obtain ⟨h1, h2, h3⟩ := each f hf
      exact ⟨h1, h2, hcs _ h3⟩
    clear each hcs
    generalize ((ks a).map Value.string).toArray = cs at each2 ⊢
    generalize fs.toList = L at each2
    induction L with
    | nil => simp
    | cons f L ih =>
      obtain ⟨hn, hs, z, hz⟩ := each2 f (by simp)
      have p1 : (part f.type cs f.offset).run P w = .ok (.string z) w := by
        simp only [part, isAgg, Sem.run_bind, run_underlying hs, Result.andThen_ok, Sem.run_pure, Bool.false_eq_true, if_false, hz]
      have p2 : (Instr.checkKey em 9999 f.type (.string z)).run P w = .ok () w := Go.MapKept.run_checkKey (d := .string) (k := .string z) hs trivial em 9998
      simp only [List.forIn_cons, Sem.run_bind, hn, ne_eq, not_false_eq_true, if_true, Result.andThen_ok, p1, p2, Sem.run_pure]
      exact ih (fun y hy => each2 y (by simp [hy]))
  · subst h3
    have hw : (match P.underlying kt with | some (.array _ _) | some (.struct _) => true | _ => false) = true := by rw [hu]
    rw [run_findKey_eq w hw]
    simpa using asking (kv := fun a => .agg ((ks a).map Value.string).toArray) heq w a m es 0 h1 h2
  · have hs : Instr.sameBits 10000 (.agg ((ks a).map Value.string).toArray) (.agg ((ks a).map Value.string).toArray) = true := by
      show Instr.sameBits (9999 + 1) _ _ = true
      simp only [Instr.sameBits, beq_self_eq_true, Bool.true_and, List.all_eq_true]
      intro p hp
      obtain ⟨i, hi, e⟩ := List.getElem_of_mem hp
      rw [List.getElem_zip] at e
      rw [← e]
      simp only [List.getElem_map, Instr.sameBits]
      exact (bytes_beq _ _).2 rfl
    simp [Instr.keyThatStays, hs]

def ents {α : Type} (kv : α → Value) (m : List (α × AV)) : List (Value × AV) := m.map fun p => (kv p.1, p.2)
/-- an entry is there, now -/
def entM {α : Type} [DecidableEq α] (z : AV) (k : α) (m : List (α × AV)) : List (α × AV) := match fndM k m with | some _ => m | none => m ++ [(k, z)]
def idxM {α : Type} [DecidableEq α] (k : α) (m : List (α × AV)) : Nat := (fndM k m).getD m.length

section
variable {P : Program} {E : Operand → AV} {st : List AO} {α : Type} [DecidableEq α] {kv : α → Value} {kt e : TypeId} {zv : Value} {za : AV}

structure MapT (P : Program) (t kt e : TypeId) (zv : Value) (za : AV) : Prop where
  ut : P.underlying t = some (.map kt e)
  zero : ∀ w, (zeroValue e).run P w = .ok zv w
  rep : ∀ σ gh st, RepA σ gh st zv za
  one : zv.oneCell' = true

/-- a map, and where a key stands -/
theorem map_at {w0 : World} {σ0 σ gh w} (hb : Base w0 σ0 σ gh st w) {s : Nat} {m : List (α × AV)} (K : KeyR P kt kv) (hst : st[s]? = some (.mp (ents kv m))) {g : Value} (hg : gh[s]? = some g) (k : α) :
    ∃ r entries, g = .map (some r) ∧ w0.heap.size ≤ r ∧ w.heap[r]? = some (.map entries entries.size) ∧ entries.size = m.length ∧
      (∀ (i : Nat) p, m[i]? = some p → ∃ me : MapEntry, entries[i]? = some me ∧ me.key = kv p.1 ∧ RepA σ gh st me.val p.2) ∧ Uns σ r ∧ (∀ (i : Nat) (me : MapEntry), entries[i]? = some me → me.born = i ∧ me.val.oneCell' = true) ∧
      ((fndM k m = none ∧ (Instr.findKey kt (kv k) entries.toList).run P w = .ok none w) ∨ ∃ i me, fndM k m = some i ∧ entries[i]? = some me ∧ (Instr.findKey kt (kv k) entries.toList).run P w = .ok (some (i, me.val)) w) := by
  obtain ⟨r, entries, clock, e1, e2, e3, e4, e5, e6, e7, e8⟩ := hb.obj s _ _ hst hg
  subst e7
  have hl : entries.size = m.length := by simpa [ents] using e4
  have h5 : ∀ (i : Nat) p, m[i]? = some p → ∃ me : MapEntry, entries[i]? = some me ∧ me.key = kv p.1 ∧ RepA σ gh st me.val p.2 := fun i p hp => e5 i (kv p.1) p.2 (by simp [ents, hp])
  refine ⟨r, entries, e1, e2, e3, hl, h5, e6, e8, ?_⟩
  rcases K.find w k m entries.toList 0 (by simpa using hl) (fun i me p h1 h2 => by
    obtain ⟨me', h3, h4, _⟩ := h5 i p h2
    rw [Array.getElem?_toList] at h1
    rw [h1] at h3; cases h3; exact h4) rfl with h | ⟨i, me, h1, h2, h3⟩
  · exact .inl h
  · exact .inr ⟨i, me, h1, by rwa [Array.getElem?_toList] at h2, h3⟩

theorem op_lookupG (t : TypeId) (x i : Operand) (s : Nat) (m : List (α × AV)) (k : α) (K : KeyR P kt kv) (M : MapT P t kt e zv za) (hx : E x = .omap s) (hst : st[s]? = some (.mp (ents kv m))) (hi : ∀ σ gh st v, RepA σ gh st v (E i) → v = kv k) :
    OpS P (.lookup t x i false) E st (lookM za k m) st := by
  refine op_pure fun o ho w0 σ0 σ gh ρ w hb hρ => ?_
  have hx' := hρ x (by simp [Op.operands])
  have hi' := hi _ _ _ _ (hρ i (by simp [Op.operands]))
  rw [hx] at hx'
  obtain ⟨hg, r0, hr⟩ := hx'
  obtain ⟨r, entries, e1, e2, e3, e4, e5, e6, e7, e8⟩ := map_at hb K hst hg k
  rcases e8 with ⟨f1, f2⟩ | ⟨j, me, f1, f2, f3⟩
  · refine ⟨zv, ?_, ?_⟩
    · simp [execOp, ho, e1, hi', Instr.lookup, run_underlying M.ut, Go.MapKept.run_getObj_map e3, K.check, f2, Result.andThen, M.zero]
    · rw [(fndM_none (z := za) (d := za) f1).1]; exact M.rep _ _ _
  · obtain ⟨y, g1, g2, _⟩ := fndM_some (z := za) (d := za) f1
    obtain ⟨me', g3, _, g4⟩ := e5 j _ g1
    rw [f2] at g3; cases g3
    refine ⟨me.val, ?_, ?_⟩
    · simp [execOp, ho, e1, hi', Instr.lookup, run_underlying M.ut, Go.MapKept.run_getObj_map e3, K.check, f3, Result.andThen]
    · rw [g2]; exact g4

/-- .. and whether it is there, where it holds data -/
theorem op_lookupG2 (t : TypeId) (x i : Operand) (s : Nat) (m : List (α × AV)) (k : α) (K : KeyR P kt kv) (M : MapT P t kt e zv za) (d : DV) (hd : lookM za k m = .v d) (hx : E x = .omap s) (hst : st[s]? = some (.mp (ents kv m))) (hi : ∀ σ gh st v, RepA σ gh st v (E i) → v = kv k) :
    OpS P (.lookup t x i true) E st (.tup [d, .one (.sc (.bool (fndM k m).isSome))]) st := by
  refine op_pure fun o ho w0 σ0 σ gh ρ w hb hρ => ?_
  have hx' := hρ x (by simp [Op.operands])
  have hi' := hi _ _ _ _ (hρ i (by simp [Op.operands]))
  rw [hx] at hx'
  obtain ⟨hg, r0, hr⟩ := hx'
  obtain ⟨r, entries, e1, e2, e3, e4, e5, e6, e7, e8⟩ := map_at hb K hst hg k
  have two : ∀ (u : Value) (b : Bool), RepV σ u d → RepA σ gh st (.tuple #[u, .bool b]) (.tup [d, .one (.sc (.bool b))]) := fun u b h =>
    ⟨[u, .bool b], rfl, rfl, fun i v d' hv hd' => by
      match i, hv, hd' with
      | 0, hv, hd' => simp at hv hd'; subst hv hd'; exact h
      | 1, hv, hd' => simp at hv hd'; subst hv hd'; exact Rep.sc rfl
      | i + 2, hv, hd' => simp at hv⟩
  rcases e8 with ⟨f1, f2⟩ | ⟨j, me, f1, f2, f3⟩
  · refine ⟨.tuple #[zv, .bool false], ?_, ?_⟩
    · simp [execOp, ho, e1, hi', Instr.lookup, run_underlying M.ut, Go.MapKept.run_getObj_map e3, K.check, f2, Result.andThen, M.zero]
    · rw [f1]
      rw [(fndM_none (z := za) (d := za) f1).1] at hd
      have := M.rep σ gh st
      rw [hd] at this
      exact two _ _ this
  · obtain ⟨y, g1, g2, _⟩ := fndM_some (z := za) (d := za) f1
    obtain ⟨me', g3, _, g4⟩ := e5 j _ g1
    rw [f2] at g3; cases g3
    refine ⟨.tuple #[me.val, .bool true], ?_, ?_⟩
    · simp [execOp, ho, e1, hi', Instr.lookup, run_underlying M.ut, Go.MapKept.run_getObj_map e3, K.check, f3, Result.andThen]
    · rw [f1]
      rw [g2] at hd
      rw [hd] at g4
      exact two _ _ g4

omit [DecidableEq α] in
/-- a map turns -/
theorem map_turn {w0 : World} {σ0 σ gh w} (hb : Base w0 σ0 σ gh st w) {s r : Nat} {es0 : List (Value × AV)} (hst : st[s]? = some (.mp es0)) {g : Value} (hg : gh[s]? = some g) (hr : g = .map (some r)) (hbr : w0.heap.size ≤ r) {entries0 : Array MapEntry} (hh : w.heap[r]? = some (.map entries0 entries0.size)) (hu : Uns σ r)
    (entries : Array MapEntry) (m : List (α × AV)) (hl : entries.size = m.length) (ho : ∀ (i : Nat) (me : MapEntry), entries[i]? = some me → me.born = i ∧ me.val.oneCell' = true)
    (he : ∀ (i : Nat) p, m[i]? = some p → ∃ me : MapEntry, entries[i]? = some me ∧ me.key = kv p.1 ∧ RepA σ gh st me.val p.2) :
    Fut w0 σ0 σ gh st σ gh (st.set s (.mp (ents kv m))) { w with heap := w.heap.setIfInBounds r (.map entries entries.size) } := by
  have hrlt : r < w.heap.size := (Array.getElem?_eq_some_iff.1 hh).1
  have keep : ∀ v a, RepA σ gh st v a → RepA σ gh (st.set s (.mp (ents kv m))) v a := fun v a h' => h'.set hst _ (fun k' e' sz' xs' heq => by cases heq)
  have := hb.turn (w' := { w with heap := w.heap.setIfInBounds r (.map entries entries.size) }) hst hg (by simp) ⟨rfl, rfl, rfl, by simp, fun j _ hj => by
      have hne : r ≠ j := fun hh => hj (by rw [hr]; simp [blkOf, hh])
      simp [hne]⟩ g (.mp (ents kv m)) (fun b hb' => .inl hb')
    ⟨r, entries, entries.size, hr, hbr, by simp [hrlt], by simpa [ents] using hl, fun i k d hk => by
      simp only [ents, List.getElem?_map, Option.map_eq_some_iff] at hk
      obtain ⟨p, hp, hpe⟩ := hk
      obtain ⟨me, m1, m2, m3⟩ := he i p hp
      simp only [Prod.mk.injEq] at hpe
      obtain ⟨rfl, rfl⟩ := hpe
      exact ⟨me, m1, m2, by rw [set_self hg]; exact keep _ _ m3⟩, hu, rfl, ho⟩ (by rw [set_self hg]; exact keep)
  rwa [set_self hg] at this

theorem op_mapEntryG (t : TypeId) (x i : Operand) (s : Nat) (m : List (α × AV)) (k : α) (K : KeyR P kt kv) (M : MapT P t kt e zv za) (hx : E x = .omap s) (hst : st[s]? = some (.mp (ents kv m))) (hi : ∀ σ gh st v, RepA σ gh st v (E i) → v = kv k) :
    OpS P (.mapEntry t x i) E st (.tup [.one .any, .one (.sc (.int .i64 (idxM k m)))]) (st.set s (.mp (ents kv (entM za k m)))) := by
  intro o ho w0 σ0 σ gh ρ w hb hρ
  have hx' := hρ x (by simp [Op.operands])
  have hi' := hi _ _ _ _ (hρ i (by simp [Op.operands]))
  rw [hx] at hx'
  obtain ⟨hg, r0, hr⟩ := hx'
  obtain ⟨r, entries, e1, e2, e3, e4, e5, e6, e7, e8⟩ := map_at hb K hst hg k
  have two : ∀ (σ : Sig) (gh : List Value) (st : List AO) (u : Value) (n : Int), u.oneCell' = true → RepA σ gh st (.tuple #[u, .int .i64 n]) (.tup [.one .any, .one (.sc (.int .i64 n))]) := fun σ gh st u n h =>
    ⟨[u, .int .i64 n], rfl, rfl, fun i v d' hv hd' => by
      match i, hv, hd' with
      | 0, hv, hd' => simp at hv hd'; subst hv hd'; exact Rep.any h
      | 1, hv, hd' => simp at hv hd'; subst hv hd'; exact Rep.sc rfl
      | i + 2, hv, hd' => simp at hv⟩
  rcases e8 with ⟨f1, f2⟩ | ⟨j, me, f1, f2, f3⟩
  · have hrun : (execOp ρ o).run P w = .ok (.value (.tuple #[zv, .int .i64 entries.size])) { w with heap := w.heap.setIfInBounds r (.map (entries.push { key := kv k, val := zv, born := entries.size }) (entries.push { key := kv k, val := zv, born := entries.size }).size) } := by
      simp [execOp, ho, e1, hi', Instr.mapEntry, run_underlying M.ut, Go.MapKept.run_getObj_map e3, K.check, f2, Result.andThen, M.zero, Go.MapKept.run_setObj_map _ e3, goInt]
    rw [hrun]
    have hem : entM za k m = m ++ [(k, za)] := by unfold entM; rw [f1]
    have hid : idxM k m = m.length := by unfold idxM; rw [f1]; rfl
    rw [hem, hid]
    refine ⟨σ, gh, map_turn hb hst hg e1 e2 e3 e6 _ _ (by simp [e4]) (fun i me hm => ?_) (fun i p hp => ?_), by rw [e4]; exact two _ _ _ _ _ M.one⟩
    · rw [Array.getElem?_push] at hm
      split at hm
      · rename_i hi; cases hm; exact ⟨hi.symm, M.one⟩
      · exact e7 i me hm
    · by_cases hlt : i < m.length
      · rw [List.getElem?_append_left hlt] at hp
        obtain ⟨me, m1, m2, m3⟩ := e5 i p hp
        have : i < entries.size := (Array.getElem?_eq_some_iff.1 m1).1
        exact ⟨me, by rw [Array.getElem?_push, if_neg (by omega)]; exact m1, m2, m3⟩
      · have hi0 : i = m.length := by
          have := (List.getElem?_eq_some_iff.1 hp).1
          simp at this; omega
        subst hi0
        simp at hp
        subst hp
        exact ⟨_, by rw [Array.getElem?_push, if_pos e4.symm], rfl, M.rep _ _ _⟩
  · obtain ⟨y0, g1, _, g2⟩ := fndM_some (z := za) (d := za) f1
    obtain ⟨me', g3, g4, g5⟩ := e5 j _ g1
    rw [f2] at g3; cases g3
    have hkey : me.key = kv k := g4
    have hrun : (execOp ρ o).run P w = .ok (.value (.tuple #[me.val, .int .i64 me.born])) { w with heap := w.heap.setIfInBounds r (.map (entries.modify j fun e => { e with key := kv k }) (entries.modify j fun e => { e with key := kv k }).size) } := by
      simp [execOp, ho, e1, hi', Instr.mapEntry, run_underlying M.ut, Go.MapKept.run_getObj_map e3, K.check, f3, f2, hkey, K.stays, Result.andThen, Go.MapKept.run_setObj_map _ e3, goInt]
    rw [hrun]
    have hem : entM za k m = m := by unfold entM; rw [f1]
    have hid : idxM k m = j := by unfold idxM; rw [f1]; rfl
    rw [hem, hid]
    refine ⟨σ, gh, map_turn hb hst hg e1 e2 e3 e6 _ _ (by simp [e4]) (fun i me hm => ?_) (fun i p hp => ?_), by rw [(e7 j me f2).1]; exact two _ _ _ _ _ (e7 j me f2).2⟩
    · rw [Array.getElem?_modify] at hm
      split at hm
      · obtain ⟨me0, h0, rfl⟩ := Option.map_eq_some_iff.1 hm
        exact e7 i me0 h0
      · exact e7 i me hm
    · obtain ⟨me', m1, m2, m3⟩ := e5 i p hp
      by_cases hij : j = i
      · subst hij
        rw [f2] at m1; cases m1
        rw [g1] at hp; cases hp
        exact ⟨{ me with key := kv k }, by rw [Array.getElem?_modify, if_pos rfl, f2]; rfl, rfl, m3⟩
      · exact ⟨me', by rw [Array.getElem?_modify, if_neg hij]; exact m1, m2, m3⟩

theorem op_entryStoreG (t : TypeId) (x i y : Operand) (s : Nat) (m : List (α × AV)) (k : α) (j : Nat) (z : AV) (K : KeyR P kt kv) (hx : E x = .omap s) (hst : st[s]? = some (.mp (ents kv m))) (hi : E i = .int j) (hj : m[j]? = some (k, z)) (hy : okSingle st (E y)) :
    OpS P (.entryStore t x i y) E st .junk (st.set s (.mp (ents kv (m.set j (k, E y))))) := by
  intro o ho w0 σ0 σ gh ρ w hb hρ
  have hx' := hρ x (by simp [Op.operands])
  have hi' := RepA_sc (hi ▸ hρ i (by simp [Op.operands]) : RepA σ gh st (ρ i) (.int j))
  have hy' := hρ y (by simp [Op.operands])
  rw [hx] at hx'
  obtain ⟨hg, r0, hr⟩ := hx'
  obtain ⟨r, entries, e1, e2, e3, e4, e5, e6, e7, e8⟩ := map_at hb K hst hg k
  obtain ⟨me, f1, f2, f3⟩ := e5 j _ hj
  have hjl : j < entries.size := (Array.getElem?_eq_some_iff.1 f1).1
  have hfi : entries.findIdx? (fun e => (e.born : Int) == (j : Int)) = some j := by
    rw [Array.findIdx?_eq_some_iff_getElem]
    have hb1 : ∀ i (h : i < entries.size), entries[i].born = i := fun i h => (e7 i entries[i] (by simp [h])).1
    refine ⟨hjl, by simp [hb1 j hjl], fun i hi => ?_⟩
    have := hb1 i (by omega)
    simp [this]
    omega
  have hrun : (execOp ρ o).run P w = .ok .skip { w with heap := w.heap.setIfInBounds r (.map (entries.modify j fun e => { e with val := ρ y }) (entries.modify j fun e => { e with val := ρ y }).size) } := by
    simp [execOp, ho, e1, hi', Instr.entryStore, Go.MapKept.run_getObj_map e3, asInt, asIntOf, hfi, Result.andThen, Go.MapKept.run_setObj_map _ e3]
  rw [hrun]
  have hone := okSingle_one hb hy' hy
  refine ⟨rfl, σ, gh, map_turn hb hst hg e1 e2 e3 e6 _ _ (by simp [e4]) (fun i me hm => ?_) (fun i p hp => ?_)⟩
  · rw [Array.getElem?_modify] at hm
    split at hm
    · obtain ⟨me0, h0, rfl⟩ := Option.map_eq_some_iff.1 hm
      exact ⟨(e7 i me0 h0).1, hone⟩
    · exact e7 i me hm
  · by_cases hij : j = i
    · subst hij
      have hjm : j < m.length := by omega
      rw [List.getElem?_set_self hjm] at hp
      cases hp
      exact ⟨{ me with val := ρ y }, by rw [Array.getElem?_modify, if_pos rfl, f1]; rfl, f2, hy'⟩
    · rw [List.getElem?_set, if_neg hij] at hp
      obtain ⟨me', m1, m2, m3⟩ := e5 i p hp
      exact ⟨me', by rw [Array.getElem?_modify, if_neg hij]; exact m1, m2, m3⟩
end
end Go.Proofs.Nw.K
end
section
/- K33: structs that hold maps; maps, and boxes, given out; what was given out, looked at. -/
open Go Go.RowKit Go.MapKept
set_option linter.unusedVariables false
set_option linter.unusedSimpArgs false
namespace Go.Proofs.Nw.K

def toPC : AV → Option PC
  | .omap s => some (.o s)
  | .v (.one d) => some (.d d)
  | _ => none
def pcAV : PC → AV
  | .o s => .omap s
  | .d x => .d x
def fillP (place : Nat → Option (Nat × Nat)) (cs : List PC) : List (Nat × AV) → Option (List PC)
  | [] => some cs
  | (i, a) :: r => match place i, toPC a with
    | some (off, 1), some c => if off < cs.length then fillP place (cs.set off c) r else none
    | _, _ => none
theorem toPC_rep {σ : Sig} {gh st} {v : Value} {a : AV} {c : PC} (h : RepA σ gh st v a) (hc : toPC a = some c) : PRep σ gh v c ∧ v.cells = #[v] := by
  unfold toPC at hc
  split at hc
  · cases hc
    refine ⟨h, ?_⟩
    obtain ⟨_, r, rfl⟩ := h
    rfl
  · cases hc
    exact ⟨h, one_cells (Rep.one h)⟩
  · cases hc
theorem fillP_run {σ : Sig} {gh st} (place : Nat → Option (Nat × Nat)) : ∀ (parts : List (Nat × Value)) (avs : List (Nat × AV)) (cells : Array Value) (cs cs' : List PC), parts.length = avs.length →
    (∀ (j : Nat) x y, parts[j]? = some x → avs[j]? = some y → x.1 = y.1 ∧ RepA σ gh st x.2 y.2) → (cells.size = cs.length ∧ ∀ (i : Nat) u c, cells[i]? = some u → cs[i]? = some c → PRep σ gh u c) → fillP place cs avs = some cs' →
    ∃ cells', Instr.fill place cells parts = some cells' ∧ cells'.size = cs'.length ∧ ∀ (i : Nat) u c, cells'[i]? = some u → cs'[i]? = some c → PRep σ gh u c
  | [], [], cells, cs, cs', _, _, h, hf => by cases hf; exact ⟨cells, rfl, h⟩
  | (i, v) :: rest, (j, a) :: avs, cells, cs, cs', hl, hr, h, hf => by
    obtain ⟨e1, e2⟩ := hr 0 _ _ rfl rfl
    have e1 : i = j := e1
    subst e1
    unfold fillP at hf
    split at hf
    · rename_i off c hp hc
      split at hf
      · rename_i hlt
        obtain ⟨p1, p2⟩ := toPC_rep e2 hc
        have p2 : v.cells = #[v] := p2
        have hlt2 : off < cells.size := by rw [h.1]; exact hlt
        obtain ⟨cells', h1, h2⟩ := fillP_run place rest avs (cells.setIfInBounds off v) (cs.set off c) cs' (by simpa using hl) (fun j x y h1 h2 => hr (j + 1) x y (by simpa using h1) (by simpa using h2)) ⟨by simpa using h.1, fun k u d hk hd => by
          rw [Array.getElem?_setIfInBounds] at hk
          rw [List.getElem?_set] at hd
          by_cases e : off = k
          · subst e
            simp [hlt2] at hk
            simp [hlt] at hd
            subst hk hd
            exact p1
          · rw [if_neg e] at hk hd
            exact h.2 k u d hk hd⟩ hf
        refine ⟨cells', ?_, h2⟩
        have hs : ¬ (off + 1 > cells.size) := by omega
        rw [← h1]
        simp [Instr.fill, hp, p2, hs]
      · cases hf
    · cases hf
  | [], _ :: _, _, _, _, hl, _, _, _ => by simp at hl
  | _ :: _, [], _, _, _, hl, _, _, _ => by simp at hl

section
variable {P : Program} {E : Operand → AV} {st : List AO}

theorem op_buildP (t : TypeId) (parts : Array (Nat × Operand)) (zs : List D) (cs : List PC) (ps : List (Nat × Nat)) (hz : zeroD P t = some zs) (hp : buildT P t = some ps)
    (hf : fillP (ps[·]?) (zs.map PC.d) (parts.toList.map fun p => (p.1, E p.2)) = some cs) : OpS P (.build t parts) E st (.pkg cs) st :=
  op_pure fun o ho w0 σ0 σ gh ρ w hb hρ => by
    obtain ⟨i, z, hi, hz', hrz⟩ := zeroD_spec hz
    unfold buildT at hp
    split at hp <;> try cases hp
    rename_i fs hu
    have hpr := parts_rep (E := E) (st := st) (σ := σ) (gh := gh) ρ parts.toList (fun x hx => hρ x (by simpa [Op.operands] using hx))
    obtain ⟨cs', h1, h2, h3⟩ := fillP_run (σ := σ) (gh := gh) (st := st) (ps[·]?) _ _ z.cells (zs.map PC.d) cs (by simp) hpr ⟨by have := (hrz σ).1; simpa using this, fun i u c hu hc => by
      simp only [List.getElem?_map, Option.map_eq_some_iff] at hc
      obtain ⟨d, hd, rfl⟩ := hc
      exact (hrz σ).2 i u d (by simpa using hu) hd⟩ hf
    refine ⟨.agg cs', ?_, cs'.toList, by simp, by simpa using h2, fun i u c hu hc => h3 i u c (by simpa using hu) hc⟩
    have hm := fieldPlaces_run hp w
    have hm' : (fs.mapM (fun f => do pure (f.offset, ← sizeOf f.type) : Field → Sem (Nat × Nat))).run P w = .ok ps.toArray w := by
      rw [Array.mapM_eq_mapM_toList, Sem.run_map, hm]; rfl
    have hpp : (parts.map fun p => (p.1, ρ p.2)).toList = parts.toList.map fun p => (p.1, ρ p.2) := by simp
    simp only [execOp, ho, Instr.build, zeroValue, typeInfo, Sem.run_bind, run_program, Result.andThen_ok, hi, Sem.run_pure, hz', run_underlying hu, hm']
    have h1' : Instr.fill (fun x => ps.toArray[x]?) z.cells (parts.map fun p => (p.1, ρ p.2)).toList = some cs' := by rw [hpp]; simpa using h1
    simp [h1]

theorem op_boxP (t : TypeId) (x : Operand) (cs : List PC) (hx : E x = .pkg cs) : OpS P (.box t x) E st (.ptr st.length 0) (st ++ [.box t (cs.map pcAV)]) := by
  intro o ho w0 σ0 σ gh ρ w hb hρ
  have h1 := hρ x (by simp [Op.operands])
  rw [hx] at h1
  obtain ⟨vs, e0, hl, hr⟩ := h1
  have : (execOp ρ o).run P w = .ok (.value (.pointer (some ⟨w.heap.size, 0, none⟩))) (w.alloc (.cells vs.toArray t)) := by
    simp [execOp, ho, e0, Instr.box, newVar, newRow, Value.cells]
  rw [this]
  refine ⟨σ, _, new_box hb vs.toArray t _ (by simpa using hl) (fun j v c hv hc => ?_) (fun v hv => ?_), ptr_last hb _⟩
  · simp only [List.getElem?_map, Option.map_eq_some_iff] at hc
    obtain ⟨d, hd, rfl⟩ := hc
    have := hr j v d (by simpa using hv) hd
    cases d with
    | o s => exact this
    | d x => exact this
  · obtain ⟨i, hi, rfl⟩ := List.getElem_of_mem (by simpa using hv : v ∈ vs)
    have hi' : i < cs.length := by omega
    have := hr i vs[i] cs[i] (by simp [hi]) (by simp [hi'])
    generalize cs[i] = c at this
    cases c with
    | o s => obtain ⟨_, r, e⟩ := this; rw [e]; rfl
    | d x => exact Rep.one this

theorem op_refeq_nil (t ty : TypeId) (x y : Operand) (cells : List D) (ht : ptrT P t = true) (hx : E x = .d (.ref cells)) (hy : E y = .sc (.pointer none)) : OpS P (.binOp .eql t x y ty) E st (.bool false) st :=
  op_pure fun o ho w0 σ0 σ gh ρ w hb hρ => by
    have h1 := hρ x (by simp [Op.operands])
    have h2 := hρ y (by simp [Op.operands])
    rw [hx] at h1
    rw [hy] at h2
    have h1 : Rep σ (ρ x) (.ref cells) := h1
    generalize hv : ρ x = v at h1
    cases h1 with
    | @ref b off _ val hcell hval =>
      obtain ⟨e, j, h4, h5⟩ := ptrT_spec ht
      have hpt : P.pointee t = e := by simp [Program.pointee, h4]
      have := run_eql_pointer_nil (P := P) w t (some ⟨b, off, none⟩) (by rw [hpt]; exact h4)
      exact ⟨.bool false, by simp [execOp, ho, hv, RepA_sc h2, eqGuard_ptr, this], RepA_of_sc rfl⟩

/-- a map that was given out, looked at -/
theorem op_lookupD {α : Type} [DecidableEq α] {kv : α → Value} {kt e : TypeId} {zv : Value} {za : AV} (t : TypeId) (x i : Operand) (m : List (α × D)) (k : α) (K : KeyR P kt kv) (M : MapT P t kt e zv za) (zd : D) (hz : za = .d zd)
    (hx : E x = .d (.map (m.map fun p => (kv p.1, p.2)))) (hi : ∀ σ gh st v, RepA σ gh st v (E i) → v = kv k) (comma : Bool) :
    OpS P (.lookup t x i comma) E st (if comma then .tup [.one (lookM zd k m), .one (.sc (.bool (fndM k m).isSome))] else .d (lookM zd k m)) st := by
  refine op_pure fun o ho w0 σ0 σ gh ρ w hb hρ => ?_
  have hx' := hρ x (by simp [Op.operands])
  have hi' := hi _ _ _ _ (hρ i (by simp [Op.operands]))
  rw [hx] at hx'
  have hx' : Rep σ (ρ x) (.map (m.map fun p => (kv p.1, p.2))) := hx'
  generalize hv : ρ x = v at hx'
  cases hx' with
  | @map r _ entries clock val hobj hl hkey hval =>
    have e3 := hb.sl.obj r _ hobj
    have hl' : entries.size = m.length := by simpa using hl
    have h5 : ∀ (i : Nat) p, m[i]? = some p → ∃ me : MapEntry, entries[i]? = some me ∧ me.key = kv p.1 ∧ Rep σ me.val p.2 := fun i p hp => by
      obtain ⟨me, h1, h2, h3⟩ := hkey i (kv p.1, p.2) (by simp [hp])
      exact ⟨me, h1, h2, by rw [h3]; exact hval i (kv p.1) p.2 (by simp [hp])⟩
    have two : ∀ (u : Value) (b : Bool) (d : D), Rep σ u d → RepA σ gh st (.tuple #[u, .bool b]) (.tup [.one d, .one (.sc (.bool b))]) := fun u b d h =>
      ⟨[u, .bool b], rfl, rfl, fun i v d' hv hd' => by
        match i, hv, hd' with
        | 0, hv, hd' => simp at hv hd'; subst hv hd'; exact h
        | 1, hv, hd' => simp at hv hd'; subst hv hd'; exact Rep.sc rfl
        | i + 2, hv, hd' => simp at hv⟩
    have f0 : ∀ (m : List (α × D)), fndM k (m.map fun p => (p.1, AV.d p.2)) = fndM k m := fun m => by
      induction m with
      | nil => rfl
      | cons p r ih => simp only [List.map_cons, fndM, ih]
    rcases K.find w k (m.map fun p => (p.1, AV.d p.2)) entries.toList 0 (by simpa using hl') (fun i me p h1 h2 => by
      simp only [List.getElem?_map, Option.map_eq_some_iff] at h2
      obtain ⟨q, hq, rfl⟩ := h2
      obtain ⟨me', h3, h4, _⟩ := h5 i q hq
      rw [Array.getElem?_toList] at h1
      rw [h1] at h3; cases h3; exact h4) rfl with ⟨f1, f2⟩ | ⟨j, me, f1, f2, f3⟩
    · rw [f0] at f1
      have hr := M.rep σ gh st
      rw [hz] at hr
      cases comma with
      | false =>
        refine ⟨zv, ?_, ?_⟩
        · simp [execOp, ho, hv, hi', Instr.lookup, run_underlying M.ut, Go.MapKept.run_getObj_map e3, K.check, f2, Result.andThen, M.zero]
        · rw [(fndM_none (z := zd) (d := zd) f1).1]; exact hr
      | true =>
        refine ⟨.tuple #[zv, .bool false], ?_, ?_⟩
        · simp [execOp, ho, hv, hi', Instr.lookup, run_underlying M.ut, Go.MapKept.run_getObj_map e3, K.check, f2, Result.andThen, M.zero]
        · rw [(fndM_none (z := zd) (d := zd) f1).1, f1]; exact two _ _ _ hr
    · rw [f0] at f1
      obtain ⟨y, g1, g2, _⟩ := fndM_some (z := zd) (d := zd) f1
      obtain ⟨me', g3, _, g4⟩ := h5 j _ g1
      rw [Array.getElem?_toList] at f2
      rw [f2] at g3; cases g3
      cases comma with
      | false =>
        refine ⟨me.val, ?_, ?_⟩
        · simp [execOp, ho, hv, hi', Instr.lookup, run_underlying M.ut, Go.MapKept.run_getObj_map e3, K.check, f3, Result.andThen]
        · rw [g2]; exact g4
      | true =>
        refine ⟨.tuple #[me.val, .bool true], ?_, ?_⟩
        · simp [execOp, ho, hv, hi', Instr.lookup, run_underlying M.ut, Go.MapKept.run_getObj_map e3, K.check, f3, Result.andThen]
        · rw [g2, f1]; exact two _ _ _ g4

/-! ### given out -/
theorem seal_map {w0 : World} {σ0 σ gh st w} (hb : Base w0 σ0 σ gh st w) {s : Nat} {es : List (Value × D)} (hst : st[s]? = some (.mp (es.map fun p => (p.1, AV.d p.2)))) {g : Value} (hg : gh[s]? = some g) :
    ∃ σ', Fut w0 σ0 σ gh st σ' gh (st.set s .gone) w ∧ Rep σ' g (.map es) := by
  obtain ⟨r, entries, clock, e1, e2, e3, e4, e5, e6, e7⟩ := hb.obj s _ _ hst hg
  have keep0 : ∀ v a, RepA σ gh st v a → RepA σ gh (st.set s .gone) v a := fun v a h => h.set hst _ (fun _ _ _ _ h => by cases h)
  have hslt : s < st.length := (List.getElem?_eq_some_iff.1 hst).1
  let σ' : Sig := ⟨σ.cell, fun b => if b = r then some (.map entries clock) else σ.obj b⟩
  have hle : σ.le σ' := ⟨fun _ _ _ h => h, fun b o h => by
    show (if b = r then _ else σ.obj b) = _
    split
    · rename_i e; subst e; rw [e6.2] at h; cases h
    · exact h⟩
  have keep : ∀ v a, RepA σ gh st v a → RepA σ' gh (st.set s .gone) v a := fun v a h => (keep0 v a h).sig hle
  refine ⟨σ', ⟨⟨hb.below, fun b h => ?_, ⟨fun b o v hv => hb.sl.cell b o v hv, fun b o hv => ?_⟩, by simp [hb.len], hb.sep, hb.lt, fun t o1 g1 h1 h2 => ?_⟩, keep⟩, ?_⟩
  · have : b ≠ r := by omega
    have := hb.ext b h
    exact ⟨this.1, by show (if b = r then _ else σ.obj b) = _; rw [if_neg ‹_›]; exact this.2⟩
  · have hv : (if b = r then some (Obj.map entries clock) else σ.obj b) = some o := hv
    by_cases e : b = r
    · rw [if_pos e] at hv
      cases hv
      rw [e]; exact e3
    · rw [if_neg e] at hv
      exact hb.sl.obj b o hv
  · rw [List.getElem?_set] at h1
    split at h1
    · simp [hslt] at h1; subst h1; trivial
    · rename_i hne
      refine (hb.obj t o1 g1 h1 h2).sig hle (fun b' hbk hu' => ⟨hu'.1, ?_⟩) keep
      show (if b' = r then _ else σ.obj b') = none
      rw [if_neg]
      · exact hu'.2
      · intro e'; subst e'
        exact hb.sep s t b' hne (by rw [hg, e1]; simp [blkOf]) (by rw [h2]; exact hbk)
  · rw [e1]
    refine .map (fun i => (entries.getD i ⟨.tuple #[], .tuple #[], 0⟩).val) (show (if r = r then some (Obj.map entries clock) else σ.obj r) = _ by rw [if_pos rfl]) (by simpa using e4) (fun i e he => ?_) (fun i k d he => ?_)
    · obtain ⟨me, h1, h2, h3⟩ := e5 i e.1 (.d e.2) (by simp [he])
      exact ⟨me, h1, h2, by simp [Array.getD_eq_getD_getElem?, h1]⟩
    · obtain ⟨me, h1, h2, h3⟩ := e5 i k (.d d) (by simp [he])
      simp only [Array.getD_eq_getD_getElem?, h1, Option.getD_some]
      exact Rep.mono (h3 : Rep σ me.val d) hle

theorem seal_box {w0 : World} {σ0 σ gh st w} (hb : Base w0 σ0 σ gh st w) {s : Nat} {bT : TypeId} {ds : List D} (hst : st[s]? = some (.box bT (ds.map AV.d))) {g : Value} (hg : gh[s]? = some g) :
    ∃ σ', Fut w0 σ0 σ gh st σ' gh (st.set s .gone) w ∧ Rep σ' g (.ref ds) := by
  obtain ⟨b, vals, e1, e2, e3, e4, e5, hu, e7⟩ := hb.obj s _ _ hst hg
  have keep0 : ∀ v a, RepA σ gh st v a → RepA σ gh (st.set s .gone) v a := fun v a h => h.set hst _ (fun _ _ _ _ h => by cases h)
  have hslt : s < st.length := (List.getElem?_eq_some_iff.1 hst).1
  have hle := Sig.le_seal hu vals.toList
  have keep : ∀ v a, RepA σ gh st v a → RepA (σ.shut b vals.toList) gh (st.set s .gone) v a := fun v a h => (keep0 v a h).sig hle
  refine ⟨σ.shut b vals.toList, ⟨⟨hb.below, fun b' h => ?_, ⟨fun b' o v hv => ?_, hb.sl.obj⟩, by simp [hb.len], hb.sep, hb.lt, fun t o1 g1 h1 h2 => ?_⟩, keep⟩, ?_⟩
  · have : b' ≠ b := by omega
    have := hb.ext b' h
    exact ⟨by funext o; simp only [Sig.shut]; rw [if_neg ‹_›]; exact congrFun this.1 o, this.2⟩
  · simp only [Sig.shut] at hv
    split at hv
    · rename_i e'; subst e'
      refine ⟨?_, e7 v (by rw [← Array.mem_toList_iff]; exact List.mem_of_getElem? hv)⟩
      rw [cell_of_row w b' o vals _ (0, 0) e3]; simpa using hv
    · exact hb.sl.cell b' o v hv
  · rw [List.getElem?_set] at h1
    split at h1
    · simp [hslt] at h1; subst h1; trivial
    · rename_i hne
      refine (hb.obj t o1 g1 h1 h2).sig hle (fun b' hbk hu' => hu'.shut ?_ _) keep
      intro e'; subst e'
      exact hb.sep s t b' hne (by rw [hg, e1]; simp [blkOf]) (by rw [h2]; exact hbk)
  · rw [e1]
    have hsz : vals.size = ds.length := by simpa using e4
    refine .ref (fun j => vals.getD j undef) (fun j hj => ?_) (fun j d hd => ?_)
    · have : j < vals.size := by omega
      simp [Sig.shut, this, Array.getD]
    · have hj : j < vals.size := by rw [hsz]; exact (List.getElem?_eq_some_iff.1 hd).1
      have := e5 j vals[j] (.d d) (by simp [hj]) (by simp [hd])
      have h2 : vals.getD j undef = vals[j] := by simp [Array.getD, hj]
      rw [h2]
      exact Rep.mono (this : Rep σ _ d) hle
end
end Go.Proofs.Nw.K
end
section
/- K36: single steps of a region; a copy with room behind it. -/
open Go Go.RowKit
set_option linter.unusedVariables false
set_option linter.unusedSimpArgs false
namespace Go.Proofs.Nw.K

def dOk (N : Fm) : Option Tmp → Bool
  | some d => Nat.blt d N.n
  | none => true
theorem dOk_out {N : Fm} {dst : Option Tmp} (h : dOk N dst = true) : ∀ d, dst = some d → d < N.n := fun d e => by subst e; exact Nat.le_of_ble_eq_true h
theorem stepW {P : Program} {T : Tab} {N : Fm} {env : Env} {st : List AO} (hT : TabOk P T) {ops : Array Oper} {rest : List Oper} {K : Env → List AO → Prop} {dst : Option Tmp} {op : Op} {ty : TypeId} {pos : String} {after : Array Edge} (hd : dOk N dst = true)
    (h : cOp2 P T op (evalE env) st fun v st' => WPL P N ops rest (updO env dst v) st' K) : WPL P N ops (⟨dst, op, ty, pos, after, none⟩ :: rest) env st K :=
  WPL_opN (dOk_out hd) (cOp2_sound P T hT h)
theorem stepO {P : Program} {N : Fm} {env : Env} {st : List AO} {ops : Array Oper} {rest : List Oper} {K : Env → List AO → Prop} {dst : Option Tmp} {op : Op} {ty : TypeId} {pos : String} {after : Array Edge} {v : AV} {st' : List AO} (hd : dOk N dst = true) (h1 : OpS P op (evalE env) st v st')
    (h : WPL P N ops rest (updO env dst v) st' K) : WPL P N ops (⟨dst, op, ty, pos, after, none⟩ :: rest) env st K := WPL_op h1 (dOk_out hd) h
/-- a guarded operation that is carried out, of which one of several things comes -/
theorem stepGN {P : Program} {N : Fm} {env : Env} {st : List AO} {ops : Array Oper} {rest : List Oper} {K : Env → List AO → Prop} {dst : Option Tmp} {op : Op} {ty : TypeId} {pos : String} {after : Array Edge} {j d : Nat} {want : Bool} {oj : Oper} (hd : dOk N dst = true) (hj : ops[j]? = some oj) (hdj : oj.dst = some d) (hdN : d < N.n) (hb : env d = .bool want)
    (h : OpN P op (evalE env) st fun v st' => WPL P N ops rest (updO env dst v) st' K) : WPL P N ops (⟨dst, op, ty, pos, after, some (j, want)⟩ :: rest) env st K :=
  fun w0 σ0 I a w hr => by
    have hy := yielded_of hr hj hdj hdN hb
    refine wpList_step fun K' hK => ?_
    simp only [Region.wanted, hy, beq_self_eq_true, if_true]
    exact op_wpN (o := ⟨dst, op, ty, pos, after, some (j, want)⟩) h (dOk_out hd) hr fun v st' a w hV h' => hK a w (hV w0 σ0 I a w h')
theorem stepG {P : Program} {T : Tab} {N : Fm} {env : Env} {st : List AO} (hT : TabOk P T) {ops : Array Oper} {rest : List Oper} {K : Env → List AO → Prop} {dst : Option Tmp} {op : Op} {ty : TypeId} {pos : String} {after : Array Edge} {j d : Nat} {want : Bool} {oj : Oper} (hd : dOk N dst = true) (hj : ops[j]? = some oj) (hdj : oj.dst = some d) (hdN : d < N.n) (hb : env d = .bool want)
    (h : cOp2 P T op (evalE env) st fun v st' => WPL P N ops rest (updO env dst v) st' K) : WPL P N ops (⟨dst, op, ty, pos, after, some (j, want)⟩ :: rest) env st K :=
  stepGN hd hj hdj hdN hb (cOp2_sound P T hT h)

/-- the copy, with j of the room's three places filled -/
def ownE {α : Type} (z : α) (l : List α) (f : α) : Nat → List α
  | 0 => l ++ [z, z, z]
  | 1 => l ++ [f, z, z]
  | 2 => l ++ [f, f, z]
  | _ => l ++ [f, f, f]
theorem ownE_length {α : Type} (z : α) (l : List α) (f : α) (j : Nat) : (ownE z l f j).length = l.length + 3 := by
  match j with
  | 0 | 1 | 2 | _ + 3 => simp [ownE]
theorem ownE_set {α : Type} (z : α) (l : List α) (f : α) (j : Nat) (h : j < 3) : (ownE z l f j).set (l.length + j) f = ownE z l f (j + 1) := by
  match j, h with
  | 0, _ | 1, _ | 2, _ => simp [ownE, List.set_append_right]
theorem own_first {α : Type} (z : α) (enc : α → List D) (zs : List D) (hz : zs = enc z) (l : List α) (f : α) : (List.replicate (l.length + 3) zs).take 0 ++ l.map enc ++ (List.replicate (l.length + 3) zs).drop (0 + (l.map enc).length) = (ownE z l f 0).map enc := by
  subst hz
  rw [List.take_zero, List.nil_append, Nat.zero_add, List.length_map, List.drop_replicate, Nat.add_sub_cancel_left]
  simp [ownE, List.replicate]

end Go.Proofs.Nw.K
end
section
/- K34: boxes and maps of one's own, given out; open regions step by step. -/
open Go Go.RowKit Go.MapKept
set_option linter.unusedVariables false
set_option linter.unusedSimpArgs false
namespace Go.Proofs.Nw.K

/-- a box of one's own that holds data is given out -/
theorem Sub.shutPtr {N : Fm} {env : Env} {st : List AO} (t s : Nat) {bT : TypeId} {ds : List D} (h : env t = .ptr s 0) (hst : st[s]? = some (.box bT (ds.map AV.d))) : Sub N env st (upd env t (.d (.ref ds))) (st.set s .gone) :=
  Sub.slot t _ fun w0 σ0 σ gh w u hb hu => by
    rw [h] at hu
    obtain ⟨b, hg, hv⟩ := hu
    obtain ⟨σ', hf, hrep⟩ := seal_box hb hst hg
    refine ⟨σ', gh, hf, ?_⟩
    rw [hv]
    exact hrep

/-- an entry of one's own map, seen otherwise -/
theorem Sub.ent {N : Fm} {env : Env} {st st1 : List AO} {s i : Nat} {es : List (Value × AV)} {kv : Value} {a a' : AV} (hst : st[s]? = some (.mp es)) (hi : es[i]? = some (kv, a)) (hst1 : st1[s]? = some (.mp es))
    (h : ∀ w0 σ0 σ gh w u, Base w0 σ0 σ gh st w → RepA σ gh st u a → ∃ σ' gh', Fut w0 σ0 σ gh st σ' gh' st1 w ∧ RepA σ' gh' st1 u a' ∧ gh'[s]? = gh[s]?) :
    Sub N env st env (st1.set s (AO.mp (es.set i (kv, a')))) := by
  intro w0 σ0 I x w ⟨hs, hd, hI, σ, gh, hb, hk, he⟩
  have hlt : s < gh.length := by rw [hb.len]; exact (List.getElem?_eq_some_iff.1 hst).1
  obtain ⟨g, hg⟩ : ∃ g, gh[s]? = some g := ⟨gh[s], List.getElem?_eq_getElem hlt⟩
  obtain ⟨r, entries, clock, e1, e2, e3, e4, e5, e6, e7⟩ := hb.obj s _ _ hst hg
  obtain ⟨me, m1, m2, m3⟩ := e5 i kv a hi
  obtain ⟨σ', gh', hf, hu, hgg⟩ := h w0 σ0 σ gh w _ hb m3
  have hg' : gh'[s]? = some g := by rw [hgg, hg]
  obtain ⟨r', entries', clock', f1, f2, f3, f4, f5, f6, f7⟩ := hf.base.obj s _ _ hst1 hg'
  have hrr : r' = r := by rw [e1] at f1; simpa using f1.symm
  subst hrr
  have hee : entries' = entries ∧ clock' = clock := by
    rw [e3] at f3
    have := Option.some.inj f3
    injection this with h1 h2
    exact ⟨h1.symm, h2.symm⟩
  obtain ⟨rfl, rfl⟩ := hee
  have keep : ∀ v a, RepA σ' gh' st1 v a → RepA σ' gh' (st1.set s (AO.mp (es.set i (kv, a')))) v a := fun v a h' => h'.set hst1 _ (fun k' e' sz' xs' heq => by cases heq)
  have := hf.base.turn (w' := w) hst1 hg' (by simp) ⟨rfl, rfl, rfl, Nat.le_refl _, fun _ _ _ => rfl⟩ g (.mp (es.set i (kv, a'))) (fun b hb' => .inl hb')
    ⟨r', entries', clock', f1, f2, f3, by simpa using f4, fun j k d hj => by
      rw [set_self hg']
      by_cases hij : i = j
      · subst hij
        have hil : i < es.length := (List.getElem?_eq_some_iff.1 hi).1
        rw [List.getElem?_set_self hil] at hj
        cases hj
        exact ⟨me, m1, m2, keep _ _ hu⟩
      · rw [List.getElem?_set, if_neg hij] at hj
        obtain ⟨me', c1, c2, c3⟩ := f5 j k d hj
        exact ⟨me', c1, c2, keep _ _ c3⟩, f6, f7⟩ (by rw [set_self hg']; exact keep)
  rw [set_self hg'] at this
  exact ⟨hs, hd, hI, σ', gh', this.base, fun v a ha => this.keep _ _ (hf.keep _ _ (hk v a ha)), fun t => this.keep _ _ (hf.keep _ _ (he t))⟩

/-- a row of one's own, in an entry, is given out -/
theorem Sub.shutEnt {N : Fm} {env : Env} {st : List AO} {s i r k n e sz : Nat} {es : List (Value × AV)} {kv : Value} {xs : List (List D)} {d : D} (hst : st[s]? = some (.mp es)) (hi : es[i]? = some (kv, .h r k 0 n)) (hr : st[r]? = some (.row k e sz xs)) (hn : n = xs.length)
    (hd : DLe (.one (.list sz xs)) (.one d)) : Sub N env st env ((st.set r .gone).set s (AO.mp (es.set i (kv, .d d)))) := by
  have hne : r ≠ s := fun h => by subst h; rw [hst] at hr; cases hr
  refine Sub.ent hst hi (by rw [List.getElem?_set, if_neg hne]; exact hst) fun w0 σ0 σ gh w u hb hu => ?_
  obtain ⟨g, hg, hR, A, c, hv⟩ := h_val hb hr hu
  obtain ⟨σ', hf, hrep⟩ := seal_row hb hr hg
  refine ⟨σ', gh, hf, ?_, rfl⟩
  refine hd σ' u ?_
  obtain ⟨h0, ⟨a1, a2, a3⟩ | ⟨b, m, c2, a1, a2, ⟨a3, a4, _⟩ | a3⟩⟩ := hR
  · rw [a3]; exact hrep
  · omega
  · subst hn
    obtain ⟨A', c', hgv, hc'⟩ := row_val hb hr hg
    rw [a1] at hgv
    injection hgv with e1 e2 e3
    subst e2
    have : u = g := by rw [a3, a1]; simp
    rw [this]; exact hrep

/-- a map of one's own, in a cell, is given out -/
theorem Sub.shutMap {N : Fm} {env : Env} {st : List AO} {s i r : Nat} {bT : TypeId} {cells : List AV} {es : List (Value × D)} (hst : st[s]? = some (.box bT cells)) (hi : cells[i]? = some (.omap r)) (hr : st[r]? = some (.mp (es.map fun p => (p.1, AV.d p.2)))) :
    Sub N env st env ((st.set r .gone).set s (AO.box bT (cells.set i (.d (.map es))))) := by
  have hne : r ≠ s := fun h => by subst h; rw [hst] at hr; cases hr
  refine Sub.cell hst hi (by rw [List.getElem?_set, if_neg hne]; exact hst) fun w0 σ0 σ gh w u hb hu => ?_
  obtain ⟨hg, _⟩ := hu
  obtain ⟨σ', hf, hrep⟩ := seal_map hb hr hg
  exact ⟨σ', gh, hf, hrep, rfl⟩

section
variable {P : Program} {T : Tab} {N : Fm} {ops : Array Oper} {tf : List Bool} {Ss : List (List AO)} {K : Env → Nat → Prop} {k j : Nat} {env : Env} {rest : List Oper} {dst : Option Tmp} {op : Op} {ty : TypeId} {pos : String} {after : Array Edge}
/-- what turns nothing -/
theorem WT_pure {v : AV} (hf : tf.getD k false = false) (hd : dOk N dst = true) (h : ∀ s ∈ Ss, OpS P op (evalE env) s v s) (hk : WT P N ops tf Ss K (k + 1) rest (updO env dst v) j) : WT P N ops tf Ss K k (⟨dst, op, ty, pos, after, none⟩ :: rest) env j := by
  refine ⟨v, j, ?_, hk⟩
  unfold Yt
  rw [hf]
  exact ⟨rfl, fun s hs => ⟨dOk_out hd, .inl ⟨rfl, h s hs⟩⟩⟩
theorem WT_puk (hT : TabOk P T) (hf : tf.getD k false = false) (hd : dOk N dst = true) (h : PuK P T op (evalE env) fun v => WT P N ops tf Ss K (k + 1) rest (updO env dst v) j) : WT P N ops tf Ss K k (⟨dst, op, ty, pos, after, none⟩ :: rest) env j := by
  obtain ⟨v, h1, h2⟩ := PuK.out hT h
  exact WT_pure hf hd (fun s _ => h1 s) h2
theorem WT_turn {v : AV} {s s' : List AO} (ht : tf.getD k false = true) (hs : Ss[j]? = some s) (hs' : Ss[j + 1]? = some s') (hd : dOk N dst = true) (h : OpS P op (evalE env) s v s') (hk : WT P N ops tf Ss K (k + 1) rest (updO env dst v) (j + 1)) : WT P N ops tf Ss K k (⟨dst, op, ty, pos, after, none⟩ :: rest) env j := by
  refine ⟨v, j + 1, ?_, hk⟩
  unfold Yt
  rw [ht]
  exact ⟨rfl, s, s', hs, hs', dOk_out hd, rfl, h⟩
end
end Go.Proofs.Nw.K
end
section
/- QI1: what an index holds: the plain part. -/
open Go Go.RowKit Go.Proofs
set_option linter.unusedVariables false
set_option linter.unusedSimpArgs false
namespace Go.Proofs.Nw.K

abbrev Pj := Str × Str
def ksC (c : Coord) : List Str := [c.group, c.name, c.version]
def ksP (p : Pj) : List Str := [p.1, p.2]
deriving instance DecidableEq for Coord
def kvC (c : Coord) : Value := .agg ((ksC c).map Value.string).toArray
def kvP (p : Pj) : Value := .agg ((ksP p).map Value.string).toArray
theorem keyC : KeyR Tryz.prog 29 kvC := keyR_strs (n := 3) (by kernel_rfl) ksC (fun _ => rfl) fun a b h => by
  cases a; cases b
  simp only [ksC, List.cons.injEq, and_true] at h
  obtain ⟨rfl, rfl, rfl⟩ := h
  rfl
theorem keyP : KeyR Tryz.prog 68 kvP := keyR_strs (n := 2) (by kernel_rfl) ksP (fun _ => rfl) fun a b h => by
  cases a; cases b
  simp only [ksP, List.cons.injEq, and_true] at h
  obtain ⟨rfl, rfl⟩ := h
  rfl
theorem mapTC : MapT Tryz.prog 60 29 9 (.string emp) (.str emp) where
  ut := by kernel_rfl
  zero := Tryz.zeroValue9
  rep := fun σ gh st => Rep.sc rfl
  one := rfl
theorem mapTP : MapT Tryz.prog 61 68 24 (.slice none 0 0) .nils where
  ut := by kernel_rfl
  zero := Tryz.zeroValue24
  rep := fun σ gh st => Rep.nils
  one := rfl
theorem strs_val {σ : Sig} {gh : List Value} {st : List AO} {v : Value} {l : List Str} (h : RepA σ gh st v (.v (.agg (l.map dstr)))) : v = .agg (l.map Value.string).toArray := by
  obtain ⟨vs, rfl, hl, hr⟩ := h
  congr 1
  apply Array.ext'
  have hl' : vs.length = l.length := by simpa using hl
  apply List.ext_getElem?
  intro i
  by_cases hi : i < l.length
  · have h1 : i < vs.length := by omega
    have := hr i vs[i] (dstr l[i]) (by simp [h1]) (by simp [hi])
    have h3 : vs[i] = .string l[i] := RepA_sc (gh := gh) (st := st) (show RepA σ gh st vs[i] (.d (.sc (.string l[i]))) from this)
    simp [h1, hi, h3]
  · simp only [Array.toList_map, List.getElem?_map]
    rw [List.getElem?_eq_none (by simpa using (by omega : vs.length ≤ i)), List.getElem?_eq_none (by simpa using (by omega : l.length ≤ i))]; rfl

/-- the versions of each project, in the order in which the projects came -/
def prj (c : Coord) : Pj := (c.group, c.name)
def versOf (l : List Coord) : List (Pj × List Str) := l.foldl (fun V c => updM (prj c) (lookM [] (prj c) V ++ [c.version]) V) []
def versT (V : List (Pj × List Str)) (c : Coord) : List (Pj × List Str) := updM (prj c) (lookM [] (prj c) V ++ [c.version]) V
theorem versOf_snoc (l : List Coord) (c : Coord) : versOf (l ++ [c]) = versT (versOf l) c := by unfold versOf; rw [List.foldl_append]; rfl
def hndV (i : Nat) (vs : List Str) : AV := .h i (vs.length - 1) 0 vs.length
def vmp : Nat → List (Pj × List Str) → List (Pj × AV)
  | _, [] => []
  | i, (p, vs) :: r => (p, hndV i vs) :: vmp (i + 1) r
def rowV (vs : List Str) : AO := .row (vs.length - 1) 9 1 (vs.map encStr)
def dynV (V : List (Pj × List Str)) : List AO := V.map fun e => rowV e.2
theorem vmp_length : ∀ (i : Nat) (V : List (Pj × List Str)), (vmp i V).length = V.length
  | _, [] => rfl
  | i, _ :: r => by simp [vmp, vmp_length]
theorem vmp_fnd (p : Pj) : ∀ (i : Nat) (V : List (Pj × List Str)), fndM p (vmp i V) = fndM p V
  | _, [] => rfl
  | i, (q, vs) :: r => by simp only [vmp, fndM, vmp_fnd p (i + 1) r]
theorem vmp_get : ∀ (i k : Nat) (V : List (Pj × List Str)) (p : Pj) (vs : List Str), V[k]? = some (p, vs) → (vmp i V)[k]? = some (p, hndV (i + k) vs)
  | _, _, [], _, _, h => by simp at h
  | i, 0, e :: r, p, vs, h => by simp at h; subst h; rfl
  | i, k + 1, (q, us) :: r, p, vs, h => by
    have := vmp_get (i + 1) k r p vs (by simpa using h)
    simp only [vmp, List.getElem?_cons_succ, this]
    congr 3
    omega
theorem vmp_set : ∀ (i k : Nat) (V : List (Pj × List Str)) (p : Pj) (vs : List Str), k < V.length → (vmp i V).set k (p, hndV (i + k) vs) = vmp i (V.set k (p, vs))
  | _, _, [], _, _, h => by simp at h
  | i, 0, e :: r, p, vs, h => rfl
  | i, k + 1, (q, us) :: r, p, vs, h => by
    have := vmp_set (i + 1) k r p vs (by simpa using h)
    simp only [vmp, List.set_cons_succ]
    rw [← this, show i + (k + 1) = i + 1 + k by omega]
theorem vmp_snoc : ∀ (i : Nat) (V : List (Pj × List Str)) (p : Pj) (vs : List Str), vmp i V ++ [(p, hndV (i + V.length) vs)] = vmp i (V ++ [(p, vs)])
  | _, [], _, _ => rfl
  | i, (q, us) :: r, p, vs => by
    have := vmp_snoc (i + 1) r p vs
    simp only [vmp, List.cons_append, ← this, List.length_cons]
    rw [show i + (r.length + 1) = i + 1 + r.length by omega]
theorem vmp_below : ∀ (i n : Nat) (V : List (Pj × List Str)), i + V.length ≤ n → ((ents kvP (vmp i V)).all fun e => belowN n e.2) = true
  | _, _, [], _ => rfl
  | i, n, (q, us) :: r, h => by
    have := vmp_below (i + 1) n r (by simp at h; omega)
    simp only [vmp, ents, List.map_cons, List.all_cons, Bool.and_eq_true]
    simp only [List.length_cons] at h
    refine ⟨?_, this⟩
    simp only [hndV, belowN, decide_eq_true_eq]
    omega

def textT (d : List Item) : List (Coord × AV) := d.map fun it => (it.coord, AV.d (dstr it.text))
def cellsI (n : Nat) : List AV := [.omap 0, .omap 1, .h 3 n 0 n]
def stI (d : List Item) : List AO :=
  .mp (ents kvC (textT d)) :: .mp (ents kvP (vmp 4 (versOf (d.map (·.coord))))) :: .box 63 (cellsI d.length) :: .row d.length 29 3 ((d.map (·.coord)).map encCoord) :: dynV (versOf (d.map (·.coord)))

/-- none of a list's lists of versions is empty -/
theorem versOf_pos (l : List Coord) : ∀ e ∈ versOf l, 0 < e.2.length := by
  have key : ∀ (V : List (Pj × List Str)) (p : Pj) (vs : List Str), 0 < vs.length → (∀ e ∈ V, 0 < e.2.length) → ∀ e ∈ updM p vs V, 0 < e.2.length := by
    intro V p vs hp
    induction V with
    | nil => intro _ e he; simp [updM] at he; subst he; exact hp
    | cons x r ih =>
      intro hv e he
      obtain ⟨q, us⟩ := x
      unfold updM at he
      split at he
      · rcases List.mem_cons.1 he with rfl | he
        · exact hp
        · exact hv e (by simp [he])
      · rcases List.mem_cons.1 he with rfl | he
        · exact hv _ (by simp)
        · exact ih (fun e he => hv e (by simp [he])) e he
  unfold versOf
  have : ∀ (l : List Coord) (V : List (Pj × List Str)), (∀ e ∈ V, 0 < e.2.length) → ∀ e ∈ l.foldl (fun V c => updM (prj c) (lookM [] (prj c) V ++ [c.version]) V) V, 0 < e.2.length := by
    intro l
    induction l with
    | nil => intro V hV; exact hV
    | cons c r ih => intro V hV; exact ih _ (key V _ _ (by simp) hV)
  exact this l [] (fun e he => by cases he)
theorem updM_length {α β : Type} [DecidableEq α] (p : α) (d : β) : ∀ (V : List (α × β)), (updM p d V).length ≤ V.length + 1
  | [] => by simp [updM]
  | (q, us) :: r => by
    have := updM_length p d r
    unfold updM
    split <;> simp <;> omega
theorem lookM_length (p : Pj) : ∀ (V : List (Pj × List Str)), (lookM [] p V).length ≤ (V.map (fun e => e.2.length)).sum
  | [] => by simp [lookM]
  | (q, us) :: r => by
    have := lookM_length p r
    unfold lookM
    split <;> simp <;> omega
end Go.Proofs.Nw.K
end
section
/- QI2: index.New. -/
open Go Go.RowKit Go.Proofs
set_option linter.unusedVariables false
set_option linter.unusedSimpArgs false
namespace Go.Proofs.Nw.K

universe u
theorem mix_set {α : Type u} : ∀ (k : Nat) (a b : List α) (x : α), a.length = b.length → a[k]? = some x → (a.take k ++ b.drop k).set k x = a.take (k + 1) ++ b.drop (k + 1)
  | _, [], _, _, _, h => by simp at h
  | _, _ :: _, [], _, h, _ => by simp at h
  | 0, x :: a, y :: b, z, _, h => by simp at h; subst h; simp
  | k + 1, x :: a, y :: b, z, hl, h => by
    have := mix_set k a b z (by simpa using hl) (by simpa using h)
    simpa using this
theorem mix_get {α : Type u} (k : Nat) (a b : List α) (h : k ≤ a.length) : (a.take k ++ b.drop k)[k]? = b[k]? := by
  rw [List.getElem?_append_right (by rw [List.length_take]; omega), List.length_take, Nat.min_eq_left h, Nat.sub_self, List.getElem?_drop, Nat.add_zero]
def dataV (V : List (Pj × List Str)) : List (Value × AV) := V.map fun e => (kvP e.1, AV.d (dStrs e.2))
def mixV (k : Nat) (V : List (Pj × List Str)) : List (Value × AV) := (dataV V).take k ++ (ents kvP (vmp 4 V)).drop k
def mixD (k : Nat) (V : List (Pj × List Str)) : List AO := (List.replicate V.length AO.gone).take k ++ (dynV V).drop k

theorem sealV {N : Fm} {env : Env} (A B C : AO) (V : List (Pj × List Str)) : ∀ (k : Nat), k ≤ V.length → Sub N env (A :: .mp (ents kvP (vmp 4 V)) :: B :: C :: dynV V) env (A :: .mp (mixV k V) :: B :: C :: mixD k V)
  | 0, _ => by
    have e1 : mixV 0 V = ents kvP (vmp 4 V) := by simp [mixV]
    have e2 : mixD 0 V = dynV V := by simp [mixD]
    rw [e1, e2]
    exact Sub.refl _ _ _
  | k + 1, hk => by
    refine Sub.trans (sealV A B C V k (by omega)) ?_
    have hlt : k < V.length := by omega
    obtain ⟨⟨p, vs⟩, hv⟩ : ∃ e, V[k]? = some e := ⟨_, List.getElem?_eq_getElem hlt⟩
    have h1 : (mixV k V)[k]? = some (kvP p, .h (4 + k) (vs.length - 1) 0 vs.length) := by
      unfold mixV
      rw [mix_get _ _ _ (by simp [dataV]; omega)]
      simp only [ents, List.getElem?_map, vmp_get 4 k V p vs hv]
      rfl
    have h2 : (mixD k V)[k]? = some (rowV vs) := by
      unfold mixD
      rw [mix_get _ _ _ (by simp; omega)]
      simp [dynV, hv]
    have h3 := Sub.shutEnt (N := N) (env := env) (st := A :: .mp (mixV k V) :: B :: C :: mixD k V) (s := 1) (i := k) (r := k + 4) (d := dStrs vs) rfl (by rw [h1, Nat.add_comm]) (show (mixD k V)[k]? = _ from h2) (by simp) (DLe.tl emp rfl)
    have e1 : (mixV k V).set k (kvP p, .d (dStrs vs)) = mixV (k + 1) V := by
      unfold mixV
      exact mix_set k _ _ _ (by simp [dataV, ents, vmp_length]) (by simp [dataV, hv])
    have e2 : (mixD k V).set k .gone = mixD (k + 1) V := by
      unfold mixD
      exact mix_set k _ _ _ (by simp [dynV]) (by simp [hlt])
    rw [e1] at h3
    have e3 : ((A :: AO.mp (mixV k V) :: B :: C :: mixD k V).set (k + 4) .gone).set 1 (AO.mp (mixV (k + 1) V)) = A :: .mp (mixV (k + 1) V) :: B :: C :: mixD (k + 1) V := by
      rw [← e2]; rfl
    rw [e3] at h3
    exact h3

def newGo (d : List Item) (ok : Coord → Bool) : List Item → Int
  | [] => 0
  | it :: r => bif ok it.coord then (bif (fndM it.coord (textT d)).isSome then 9 else newGo (d ++ [it]) ok r) else 1
def newE (ok : Coord → Bool) (l : List Item) : Int := bif decide ((l.length : Int) > 300) then 3 else newGo [] ok l
def ixCells (d : List Item) : List D :=
  [.map (d.map fun it => (kvC it.coord, dstr it.text)), .map ((versOf (d.map (·.coord))).map fun e => (kvP e.1, dStrs e.2)), .tl Coord 3 encCoord zCoord (sortCo (d.map (·.coord)))]
def ixD (d : List Item) : D := .ref (ixCells d)

theorem sealI {N : Fm} (hN : N.o = 0) {env : Env} (d : List Item) (h2 : env 2 = .ptr 2 0) (h3 : env 3 = .int 0) :
    Sub N env (.mp (ents kvC (textT d)) :: .mp (ents kvP (vmp 4 (versOf (d.map (·.coord))))) :: .box 63 (cellsI d.length) :: .row d.length 29 3 ((sortCo (d.map (·.coord))).map encCoord) :: dynV (versOf (d.map (·.coord)))) (ofL [(2, .d (ixD d)), (3, .int 0)]) [] := by
  generalize hV : versOf (d.map (·.coord)) = V
  refine Sub.trans (sealV _ _ _ V V.length (Nat.le_refl _)) ?_
  have e1 : mixV V.length V = dataV V := by
    unfold mixV
    rw [List.take_of_length_le (by simp [dataV]), List.drop_of_length_le (by simp [ents, vmp_length]), List.append_nil]
  rw [e1]
  refine Sub.trans (Sub.shutMap (s := 2) (i := 1) (r := 1) (es := V.map fun e => (kvP e.1, dStrs e.2)) rfl rfl (by simp [dataV, Function.comp_def])) ?_
  refine Sub.trans (Sub.shutMap (s := 2) (i := 0) (r := 0) (es := d.map fun it => (kvC it.coord, dstr it.text)) rfl rfl (by simp [textT, ents, Function.comp_def])) ?_
  refine Sub.trans (Sub.shutCell (s := 2) (i := 2) (r := 3) (d := .tl Coord 3 encCoord zCoord (sortCo (d.map (·.coord)))) rfl rfl rfl (by simp [sortCo_length]) (DLe.tl zCoord rfl)) ?_
  refine Sub.trans (Sub.shutPtr (bT := 63) (ds := ixCells d) 2 2 h2 (by simp [ixCells, hV]; rfl)) ?_
  exact Sub.ofL _ _ (by rw [hN]; exact Nat.le_refl _) ⟨by simp [upd]; rfl, rfl, by simp [upd, h3], rfl, trivial⟩ rfl rfl
end Go.Proofs.Nw.K
end
