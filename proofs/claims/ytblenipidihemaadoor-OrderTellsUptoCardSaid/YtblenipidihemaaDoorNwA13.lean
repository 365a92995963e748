/- Bundle 13: NwK31, NwQH1, NwQH2, NwQP7, NwQL9. -/
import Derived.Test.YtblenipidihemaaDoorNwA12
section
/- K31: append to a handle on the first ones of a row of one's own: in place. -/
open Go Go.RowKit
set_option linter.unusedVariables false
set_option linter.unusedSimpArgs false
namespace Go.Proofs.Nw.K

theorem RepA.bump {σ : Sig} {gh : List Value} {st : List AO} {s k e sz : Nat} {xs xs' : List (List D)} {g g' : Value} (hst : st[s]? = some (.row k e sz xs)) (hgs : gh[s]? = some g)
    (notptr : ∀ b, g ≠ .pointer (some b)) (notmap : ∀ b, g ≠ .map (some b)) : ∀ v a, RepA σ gh st v a → RepA σ (gh.set s g') (st.set s (.row (k + 1) e sz xs')) v a := by
  intro v a ha
  have hslt : s < st.length := (List.getElem?_eq_some_iff.1 hst).1
  have hgl : s < gh.length := (List.getElem?_eq_some_iff.1 hgs).1
  have lookg : ∀ (t : Nat) g1, gh[t]? = some g1 → t ≠ s → (gh.set s g')[t]? = some g1 := fun t g1 h h' => by rw [List.getElem?_set, if_neg (fun e => h' e.symm)]; exact h
  have looks : ∀ (t : Nat) o1, st[t]? = some o1 → t ≠ s → (st.set s (.row (k + 1) e sz xs'))[t]? = some o1 := fun t o1 h h' => by rw [List.getElem?_set, if_neg (fun e => h' e.symm)]; exact h
  cases a with
  | v x => exact ha
  | ptr t off =>
    obtain ⟨b, a1, a2⟩ := ha
    refine ⟨b, lookg _ _ a1 (fun e => ?_), a2⟩
    subst e; rw [hgs] at a1; cases a1; exact notptr _ rfl
  | h t k2 lo2 n2 =>
    obtain ⟨g1, o1, a1, a2, a3⟩ := ha
    by_cases et : t = s
    · subst et
      rw [hst] at a2
      cases a2
      refine ⟨g', _, by simp [hgl], by simp [hslt]; rfl, fun k' e' sz' xs2 heq => ?_⟩
      cases heq
      have := (a3 _ _ _ _ rfl).1
      exact ⟨by omega, fun e => by omega⟩
    · exact ⟨g1, o1, lookg _ _ a1 et, looks _ _ a2 et, a3⟩
  | ep t k2 i2 off2 =>
    obtain ⟨g1, o1, a1, a2, a3⟩ := ha
    by_cases et : t = s
    · subst et
      rw [hst] at a2
      cases a2
      refine ⟨g', _, by simp [hgl], by simp [hslt]; rfl, fun k' e' sz' xs2 heq => ?_⟩
      cases heq
      have := (a3 _ _ _ _ rfl).1
      exact ⟨by omega, fun e => by omega⟩
    · exact ⟨g1, o1, lookg _ _ a1 et, looks _ _ a2 et, a3⟩
  | omap t =>
    obtain ⟨a1, r, a2⟩ := ha
    refine ⟨lookg _ _ a1 (fun e => ?_), r, a2⟩
    subst e; rw [hgs] at a1; cases a1; exact notmap _ a2
  | tup vs => exact ha
  | bs t n2 =>
    obtain ⟨b, c2, a1, a2⟩ := ha
    refine ⟨b, c2, lookg _ _ a1 (fun e => ?_), a2⟩
    subst e; rw [hgs] at a1; cases a1; exact notptr _ rfl
  | clo f caps =>
    obtain ⟨us, a1, a2, a3⟩ := ha
    refine ⟨us, a1, a2, fun i u t hu ht' => ?_⟩
    obtain ⟨b1, b, b2⟩ := a3 i u t hu ht'
    refine ⟨lookg _ _ b1 (fun e => ?_), b, b2⟩
    subst e; rw [hgs] at b1; cases b1; exact notptr _ b2
  | junk => trivial

/-- a source that is a typed list -/
inductive SrcT (st : List AO) : AV → Nat → List (List D) → Prop
  | src {a sz ys} (h : Src st a sz ys) : SrcT st a sz ys
  | tl {α : Type} {sz : Nat} {enc : α → List D} {z : α} {l : List α} {ys : List (List D)} (h : ys = l.map enc) : SrcT st (.d (.tl α sz enc z l)) sz ys
theorem SrcT.to {st : List AO} {σ : Sig} {gh : List Value} {u : Value} {a : AV} {sz : Nat} {ys : List (List D)} (h : SrcT st a sz ys) (hr : RepA σ gh st u a) : ∃ a', Src st a' sz ys ∧ RepA σ gh st u a' := by
  cases h with
  | src h => exact ⟨a, h, hr⟩
  | @tl α _ enc z l _ h =>
    subst h
    have hr : Rep σ u (.tl α sz enc z l) := hr
    cases hr with
    | tl hr => exact ⟨.list sz (l.map enc), .list, hr⟩

section
variable {P : Program} {E : Operand → AV} {st : List AO}
theorem op_append_in (t e : TypeId) (sz by_ : Nat) (x y : Operand) (s k n : Nat) (xs ys : List (List D)) (ht : appT P t = some (e, sz, by_)) (hx : E x = .h s k 0 n) (hst : st[s]? = some (.row k e sz xs)) (hy : SrcT st (E y) sz ys)
    (h0 : 0 < xs.length) (hfit : n + ys.length ≤ xs.length) :
    OpS P (.call { callee := .builtin .append, args := #[x, y], argTypes := #[t, t] }) E st (.h s (k + 1) 0 (n + ys.length)) (st.set s (.row (k + 1) e sz (xs.take n ++ ys ++ xs.drop (n + ys.length)))) := by
  intro o ho w0 σ0 σ gh ρ w hb hρ
  have h1 := hρ x (by simp [Op.operands, Call.operands])
  have h2 := hρ y (by simp [Op.operands, Call.operands])
  rw [hx] at h1
  obtain ⟨hu, i, z, hi, hz, hsz', hby, hzs, hpos⟩ := appT_spec ht
  obtain ⟨g, hgs, hR, A, c, hv⟩ := h_val hb hst h1
  obtain ⟨vals, hown, hsz, hval, huns, hone⟩ := hb.obj s _ _ hst hgs
  have hslt : s < st.length := (List.getElem?_eq_some_iff.1 hst).1
  rcases hown.2 with ⟨e1, e2⟩ | ⟨b, cap, cur, e1, hbb, hheap, hnc, hcm, hcs, htake⟩
  · omega
  have hvx : ρ x = .slice (some ⟨b, 0, none⟩) n cap := by
    obtain ⟨h0, ⟨a1, a2, a3⟩ | ⟨b2, m2, c2, a1, a2, ⟨a3, a4, _⟩ | a3⟩⟩ := hR
    · rw [a3, e1, a2]
    · omega
    · rw [e1] at a1; cases a1; rw [a3, Nat.zero_mul, Nat.sub_zero]
  have hmul : (n + ys.length) * sz ≤ xs.length * sz := Nat.mul_le_mul_right _ hfit
  have hmul2 : n * sz ≤ (n + ys.length) * sz := Nat.mul_le_mul_right _ (by omega)
  have hmul3 : xs.length * sz ≤ cur.size := by rw [hcs]; exact Nat.mul_le_mul_right _ hnc
  have hvl : vals.length = xs.length * sz := hown.1
  have key : ∃ w' news cur', (Builtin.append_ #[t, t] o.type #[ρ x, ρ y]).run P w = .ok (.slice (some ⟨b, 0, none⟩) (n + ys.length) cap) w' ∧ w'.heap[b]? = some (.cells cur' e (0, 0)) ∧ cur'.size = cur.size ∧
      cur'.toList.take (xs.length * sz) = vals.take (n * sz) ++ news ++ vals.drop ((n + ys.length) * sz) ∧ RepRows σ news sz ys ∧ news.length = ys.length * sz ∧ (∀ v ∈ news, v.oneCell' = true) ∧ w.grownBy w' (some b) := by
    obtain ⟨a', hy', h2'⟩ := hy.to h2
    obtain ⟨A', c', hvy, hc⟩ := src_cells hb h2' hy'
    rcases hc with hnil | ⟨ad, news, hA, hl, hnews, hone2, hrows⟩
    · subst hnil
      have hfc : (Builtin.firstCells sz 0 (.slice A' 0 c')).run P w = .ok #[] w := by
        cases A' <;> simp [Builtin.firstCells, loadCells, loadCellsFrom]
      have hn' : n ≤ cap := by simp at hfit; omega
      refine ⟨w, [], cur, ?_, hheap, rfl, ?_, ⟨fun i x hx => by simp at hx, fun i j x d hx => by simp at hx⟩, by simp, by simp, ⟨rfl, rfl, rfl, Nat.le_refl _, fun _ _ _ => rfl⟩⟩
      · rw [hvx, hvy]
        simp [Builtin.append_, run_underlying hu, sizeOf, typeInfo, hi, hsz', Builtin.lenOf, hn', hfc, storeCells]
      · rw [htake]; simp
    · have hr := run_append_room (P := P) w t o.type e i hu hi b n cap cur hheap ad ys.length c' news (by rw [hsz']; exact hl) hnews hone2 (by omega) (by rw [hsz', hl, ← Nat.add_mul]; omega)
      rw [hsz'] at hr
      refine ⟨_, news, _, by rw [hvx, hvy, hA]; exact hr, setRow_heap w b cur _ e _ hheap, ?_, ?_, hrows, hl, hone2, ⟨rfl, rfl, rfl, by simp, fun k _ hk => setRow_other w b k _ (fun e => hk (by rw [e]))⟩⟩
      · have : n * sz + news.length = (n + ys.length) * sz := by rw [hl, Nat.add_mul]
        simp only [List.size_toArray, List.length_append, List.length_take, List.length_drop, Array.length_toList]
        omega
      · have hnl : n * sz + news.length = (n + ys.length) * sz := by rw [hl, Nat.add_mul]
        have l1 : (cur.toList.take (n * sz)).length = n * sz := by rw [List.length_take, Array.length_toList]; omega
        have l2 : (cur.toList.take (n * sz) ++ news).length = (n + ys.length) * sz := by rw [List.length_append, l1, hnl]
        show ((cur.toList.take (n * sz) ++ news ++ cur.toList.drop (n * sz + news.length)).toArray.toList).take (xs.length * sz) = _
        rw [List.toList_toArray, List.take_append, l2, List.take_of_length_le (by rw [l2]; exact hmul), hnl, ← htake, List.drop_take, List.take_take, Nat.min_eq_left (by omega)]
  obtain ⟨w', news, cur', hr, hheap', hcs', htake', hrows, hnl, hone2, hg⟩ := key
  have hrun : (execOp ρ o).run P w = .ok (.value (.slice (some ⟨b, 0, none⟩) (n + ys.length) cap)) w' := by
    simp [execOp, ho, resolve, invoke, builtin, hr]
  rw [hrun]
  have hset : gh.set s g = gh := set_self hgs
  have keep : ∀ v a, RepA σ gh st v a → RepA σ (gh.set s g) (st.set s (.row (k + 1) e sz (xs.take n ++ ys ++ xs.drop (n + ys.length)))) v a :=
    RepA.bump hst hgs (fun b h => by rw [e1] at h; cases h) (fun b h => by rw [e1] at h; cases h)
  have hlen : (xs.take n ++ ys ++ xs.drop (n + ys.length)).length = xs.length := by simp; omega
  have hbk : blkOf g = some b := by rw [e1]; rfl
  have hrr : RepRows σ (vals.take (n * sz) ++ news ++ vals.drop ((n + ys.length) * sz)) sz (xs.take n ++ ys ++ xs.drop (n + ys.length)) := by
    have l1 : (vals.take (n * sz)).length = (xs.take n).length * sz := by rw [List.length_take, List.length_take, hvl, Nat.min_eq_left (by omega), Nat.min_eq_left (by omega)]
    refine ((RepRows.take ⟨hsz, hval⟩ n).append l1 hrows).append ?_ (RepRows.drop ⟨hsz, hval⟩ _)
    rw [List.length_append, l1, hnl, List.length_append, Nat.add_mul]
  have hf := hb.turn (w' := w') hst hgs (by simp) (by rw [hbk]; exact hg) g (.row (k + 1) e sz (xs.take n ++ ys ++ xs.drop (n + ys.length))) (fun b' hb' => .inl hb')
    ⟨vals.take (n * sz) ++ news ++ vals.drop ((n + ys.length) * sz), by
      rw [hlen]
      refine ⟨?_, .inr ⟨b, cap, cur', e1, hbb, hheap', hnc, hcm, by rw [hcs', hcs], htake'⟩⟩
      rw [List.length_append, List.length_append, List.length_take, List.length_drop, hnl, hvl]
      rw [Nat.add_mul] at hmul hmul2 ⊢
      omega, hrr.1, hrr.2, huns, fun v hv' => by
      rcases List.mem_append.1 hv' with h | h
      · rcases List.mem_append.1 h with h | h
        · exact hone v (List.mem_of_mem_take h)
        · exact hone2 v h
      · exact hone v (List.mem_of_mem_drop h)⟩ keep (run_drawn P _ _ hr)
  refine ⟨σ, _, hf, g, .row (k + 1) e sz (xs.take n ++ ys ++ xs.drop (n + ys.length)), by rw [hset]; exact hgs, by rw [List.getElem?_set_self hslt], fun k' e' sz' xs' heq => ?_⟩
  cases heq
  refine ⟨Nat.le_refl _, fun _ => ⟨by rw [hlen]; omega, .inr ⟨b, xs.length, cap, e1, by omega, .inr (by rw [Nat.zero_mul, Nat.sub_zero])⟩⟩⟩
end
end Go.Proofs.Nw.K
end
section
/- QH1: a copy with room behind it, and whether it stays (strings). -/
open Go Go.RowKit Go.Proofs
set_option linter.unusedVariables false
set_option linter.unusedSimpArgs false
namespace Go.Proofs.Nw.K

def dOk (N : Fm) : Option Tmp → Bool
  | some d => Nat.blt d N.n
  | none => true
theorem dOk_out {N : Fm} {dst : Option Tmp} (h : dOk N dst = true) : ∀ d, dst = some d → d < N.n := fun d e => by subst e; exact Nat.le_of_ble_eq_true h
theorem stepW {P : Program} {T : Tab} {N : Fm} {env : Env} {st : List AO} (hT : TabOk P T) {ops : Array Oper} {rest : List Oper} {K : Env → List AO → Prop} {dst : Option Tmp} {op : Op} {ty : TypeId} {pos : String} {after : Array Edge} (hd : dOk N dst = true)
    (h : cOp2 P T op (evalE env) st fun v st' => WPL P N ops rest (updO env dst v) st' K) : WPL P N ops (⟨dst, op, ty, pos, after, none⟩ :: rest) env st K :=
  WPL_opN (dOk_out hd) (cOp2_sound P T hT h)
theorem stepO {P : Program} {N : Fm} {env : Env} {st : List AO} {ops : Array Oper} {rest : List Oper} {K : Env → List AO → Prop} {dst : Option Tmp} {op : Op} {ty : TypeId} {pos : String} {after : Array Edge} {v : AV} {st' : List AO} (hd : dOk N dst = true) (h1 : OpS P op (evalE env) st v st')
    (h : WPL P N ops rest (updO env dst v) st' K) : WPL P N ops (⟨dst, op, ty, pos, after, none⟩ :: rest) env st K := WPL_op h1 (dOk_out hd) h
/-- a guarded operation that is carried out, of which one of several things comes -/
theorem stepGN {P : Program} {N : Fm} {env : Env} {st : List AO} {ops : Array Oper} {rest : List Oper} {K : Env → List AO → Prop} {dst : Option Tmp} {op : Op} {ty : TypeId} {pos : String} {after : Array Edge} {j d : Nat} {want : Bool} {oj : Oper} (hd : dOk N dst = true) (hj : ops[j]? = some oj) (hdj : oj.dst = some d) (hdN : d < N.n) (hb : env d = .bool want)
    (h : OpN P op (evalE env) st fun v st' => WPL P N ops rest (updO env dst v) st' K) : WPL P N ops (⟨dst, op, ty, pos, after, some (j, want)⟩ :: rest) env st K :=
  fun w0 σ0 I a w hr => by
    have hy := yielded_of hr hj hdj hdN hb
    refine wpList_step fun K' hK => ?_
    simp only [Region.wanted, hy, beq_self_eq_true, if_true]
    exact op_wpN (o := ⟨dst, op, ty, pos, after, some (j, want)⟩) h (dOk_out hd) hr fun v st' a w hV h' => hK a w (hV w0 σ0 I a w h')
theorem stepG {P : Program} {T : Tab} {N : Fm} {env : Env} {st : List AO} (hT : TabOk P T) {ops : Array Oper} {rest : List Oper} {K : Env → List AO → Prop} {dst : Option Tmp} {op : Op} {ty : TypeId} {pos : String} {after : Array Edge} {j d : Nat} {want : Bool} {oj : Oper} (hd : dOk N dst = true) (hj : ops[j]? = some oj) (hdj : oj.dst = some d) (hdN : d < N.n) (hb : env d = .bool want)
    (h : cOp2 P T op (evalE env) st fun v st' => WPL P N ops rest (updO env dst v) st' K) : WPL P N ops (⟨dst, op, ty, pos, after, some (j, want)⟩ :: rest) env st K :=
  stepGN hd hj hdj hdN hb (cOp2_sound P T hT h)

/-- the copy, with j of the room's three places filled -/
def ownE {α : Type} (z : α) (l : List α) (f : α) : Nat → List α
  | 0 => l ++ [z, z, z]
  | 1 => l ++ [f, z, z]
  | 2 => l ++ [f, f, z]
  | _ => l ++ [f, f, f]
theorem ownE_length {α : Type} (z : α) (l : List α) (f : α) (j : Nat) : (ownE z l f j).length = l.length + 3 := by
  match j with
  | 0 | 1 | 2 | _ + 3 => simp [ownE]
theorem ownE_set {α : Type} (z : α) (l : List α) (f : α) (j : Nat) (h : j < 3) : (ownE z l f j).set (l.length + j) f = ownE z l f (j + 1) := by
  match j, h with
  | 0, _ | 1, _ | 2, _ => simp [ownE, List.set_append_right]
theorem own_first {α : Type} (z : α) (enc : α → List D) (zs : List D) (hz : zs = enc z) (l : List α) (f : α) : (List.replicate (l.length + 3) zs).take 0 ++ l.map enc ++ (List.replicate (l.length + 3) zs).drop (0 + (l.map enc).length) = (ownE z l f 0).map enc := by
  subst hz
  rw [List.take_zero, List.nil_append, Nat.zero_add, List.length_map, List.drop_replicate, Nat.add_sub_cancel_left]
  simp [ownE, List.replicate]

theorem Own_impl (l : List Str) (f : Str) (hl : l.length ≤ 4194304) : Impl Tryd.prog 18 [.one (.tl Str 1 encStr emp l), .one (dstr f)] [.one (.sp 1 ((ownE emp l f 3).map encStr) l.length)] := by
  have hM : (4194307 : Nat) ≤ maxLen := by decide
  refine impl_wp tabOk Tryd.func18 rfl rfl (by kernel_rfl) ?_
  refine WP_seq ?_
  refine vcc_sound _ _ _ tabOk (by exact rfl) ?_
  refine WP_seq ?_
  refine WP_region ?_
  refine stepW tabOk rfl ?_
  refine stepW tabOk rfl ?_
  refine stepW tabOk rfl ?_
  refine Ob.mk (by omega) ?_
  refine stepO rfl (op_makeSlice0 23 9 1 16 _ _ (l.length + 3) [dstr emp] (tabOk.ap 23 _ rfl) (tabOk.zd 9 _ rfl) rfl rfl (by omega) (by omega) (by omega)) ?_
  refine stepW tabOk rfl ?_
  refine WPL_nil ?_
  refine WP_seq ?_
  refine WP_region ?_
  refine stepW tabOk rfl ?_
  refine stepW tabOk rfl ?_
  refine stepO rfl (op_append_in 23 9 1 16 _ _ 0 0 0 (List.replicate (l.length + 3) [dstr emp]) (l.map encStr) (tabOk.ap 23 _ rfl) rfl rfl (SrcT.tl rfl) (by rw [List.length_replicate]; omega) (by rw [List.length_replicate, List.length_map]; omega)) ?_
  refine stepW tabOk rfl ?_
  refine WPL_nil ?_
  refine WP_sub (Sub.ofL [(0, .d (.tl Str 1 encStr emp l)), (1, .str f), (5, .h 0 1 0 l.length)] [.row 1 9 1 ((ownE emp l f 0).map encStr)] (Nat.zero_le _) ⟨rfl, rfl, rfl, rfl, congrArg (AV.h 0 1 0) (by rw [Nat.zero_add, List.length_map]), rfl, trivial⟩ (by rw [← own_first emp encStr [dstr emp] rfl l f]; rfl) rfl) ?_
  refine WP_seq ?_
  refine WP_region ?_
  refine stepW tabOk rfl ?_
  refine stepW tabOk rfl ?_
  refine stepW tabOk rfl ?_
  refine stepW tabOk rfl ?_
  refine Ob.mk (by omega) ?_
  refine stepO rfl (op_slice_hm 23 9 1 _ _ (l.length + 3) 0 1 l.length 9 ((ownE emp l f 0).map encStr) (tabOk.el 23 _ rfl) rfl rfl rfl (by rw [List.length_map, ownE_length]; omega) (by rw [List.length_map, ownE_length]; omega)) ?_
  refine stepW tabOk rfl ?_
  refine WPL_nil ?_
  refine WP_seq ?_
  refine WP_seq ?_
  refine vcc_sound _ _ _ tabOk (by exact rfl) ?_
  refine WP_cutQ (α := Unit) (fun _ => ofL [(5, .h 0 1 0 l.length)]) (fun _ => [.row 1 9 1 ((ownE emp l f 3).map encStr)]) (WP_block (WP_loop (α := {j : Nat // j ≤ 3}) (fun j => ofL [(0, .d (.tl Str 1 encStr emp l)), (1, .str f), (5, .h 0 1 0 l.length), (6, .h 0 1 0 (l.length + 3)), (7, .int ((l.length + j.1 : Nat) : Int))]) (fun j => [.row 1 9 1 ((ownE emp l f j.1).map encStr)]) (fun j => 3 - j.1) ⟨0, Nat.zero_le _⟩ (Sub.ofL _ _ (Nat.zero_le _) ⟨rfl, rfl, rfl, rfl, rfl, rfl, rfl, rfl, rfl, rfl, trivial⟩ rfl rfl) ?_)) ?_
  rotate_left
  · rintro ⟨⟩ env st hs
    refine WP_sub hs ?_
    refine WP_seq ?_
    refine vcc_sound _ _ _ tabOk (by exact rfl) ?_
    refine WP_sub (Sub.shutSp 4 0 1 l.length 9 1 ((ownE emp l f 3).map encStr) rfl rfl (by rw [List.length_map, ownE_length]; omega) (by rw [List.length_map, ownE_length]; omega)) ?_
    refine WP_ret ?_
    exact ⟨DLe.refl _, trivial⟩
  rintro ⟨j, hj⟩
  dsimp only
  refine WP_seq ?_
  refine WP_seq ?_
  refine vcc_sound _ _ _ tabOk (by exact rfl) ?_
  repeat (first | refine Ob.mk (by first | rfl | omega) ?_)
  refine vcc_sound _ _ _ tabOk (by exact rfl) ?_
  refine Br.mk (fun hb => ?_) (fun hb => ?_)
  · have hb : decide (((l.length + j : Nat) : Int) < ((l.length + 3 : Nat) : Int)) = true := hb
    have hj3 : j < 3 := by have := of_decide_eq_true hb; omega
    have hlen : ((ownE emp l f j).map encStr).length = l.length + 3 := by rw [List.length_map, ownE_length]
    refine vcc_sound _ _ _ tabOk (by exact rfl) ?_
    refine WP_seq ?_
    refine WP_block ?_
    refine vcc_sound _ _ _ tabOk (by exact rfl) ?_
    refine Ob.mk ⟨rfl, by omega, by omega⟩ ?_
    refine Ob.mk rfl ?_
    refine RowSet.ty encStr (ownE emp l f j) emp f rfl (by rw [ownE_length]; omega) rfl ?_
    refine vcc_sound _ _ _ tabOk (by exact rfl) ?_
    refine Ob.mk (by omega) ?_
    refine ⟨⟨j + 1, hj3⟩, by show 3 - (j + 1) < 3 - j; omega, Sub.ofL _ _ (Nat.zero_le _) ⟨rfl, rfl, rfl, rfl, rfl, rfl, rfl, rfl, congrArg AV.int (show ((l.length + j : Nat) : Int) + 1 = ((l.length + (j + 1) : Nat) : Int) by omega), rfl, trivial⟩ ?_ rfl⟩
    show [AO.row 1 9 1 (((ownE emp l f j).set (((l.length + j : Nat) : Int)).toNat f).map encStr)] = _
    rw [Int.toNat_natCast, ownE_set emp l f j hj3]
  · have hb : decide (((l.length + j : Nat) : Int) < ((l.length + 3 : Nat) : Int)) = false := hb
    have hj3 : j = 3 := by have := of_decide_eq_false hb; omega
    subst hj3
    refine vcc_sound _ _ _ tabOk (by exact rfl) ?_
    exact ⟨(), Sub.ofL _ _ (Nat.zero_le _) ⟨rfl, rfl, trivial⟩ rfl rfl⟩
end Go.Proofs.Nw.K
end
section
/- QH2: the copy, and the room behind it, are as they were (strings). -/
open Go Go.RowKit Go.Proofs
set_option linter.unusedVariables false
set_option linter.unusedSimpArgs false
namespace Go.Proofs.Nw.K

theorem ownE_take {α : Type} (z : α) (l : List α) (f : α) : (ownE z l f 3).take l.length = l := by simp [ownE]
theorem ownE_get {α : Type} (z : α) (l : List α) (f : α) (j : Nat) (h : j < 3) : (ownE z l f 3)[l.length + j]? = some f := by
  match j, h with
  | 0, _ | 1, _ | 2, _ => simp [ownE]

theorem Kept_impl (l : List Str) (f : Str) (hl : l.length ≤ 4194304) : Impl Tryd.prog 27 [.one (.sp 1 ((ownE emp l f 3).map encStr) l.length), .one (.tl Str 1 encStr emp l), .one (dstr f)] [.one (dbool true)] := by
  have hM : (4194307 : Nat) ≤ maxLen := by decide
  have hlen : ((ownE emp l f 3).map encStr).length = l.length + 3 := by rw [List.length_map, ownE_length]
  refine impl_wp tabOk Tryd.func27 rfl rfl (by kernel_rfl) ?_
  refine WP_seq ?_
  refine vcc_sound _ _ _ tabOk (by exact rfl) ?_
  refine WP_seq ?_
  refine WP_seq ?_
  refine WP_region ?_
  refine stepW tabOk rfl ?_
  refine stepW tabOk rfl ?_
  refine stepW tabOk rfl ?_
  refine CallD.mk _ _ (g_newelhelp_Plain_string.ok (l.length + 1) l l true (by rw [plain_eq _ _ _ (by omega) hl, decide_eq_true rfl])) (by exact ⟨DLe.sptl emp (by rw [← List.map_take, ownE_take]), DLe.refl _, trivial⟩) ?_
  refine stepW tabOk rfl ?_
  refine stepW tabOk rfl ?_
  refine stepG tabOk rfl rfl rfl (ltb rfl) rfl ?_
  refine stepGN rfl rfl rfl (ltb rfl) rfl (op_cap_sp 23 _ 1 l.length 9 ((ownE emp l f 3).map encStr) (tabOk.kslice 23 9 rfl) rfl fun c h1 h2 => ?_)
  refine stepG tabOk rfl rfl rfl (ltb rfl) rfl ?_
  refine stepG tabOk rfl rfl rfl (ltb rfl) rfl ?_
  refine stepG tabOk rfl rfl rfl (ltb rfl) rfl ?_
  refine Ob.mk (by omega) ?_
  refine stepG tabOk rfl rfl rfl (ltb rfl) rfl ?_
  refine stepW tabOk rfl ?_
  refine Br.f ?_
  refine WPL_nil ?_
  have hc : decide ((c : Int) < (l.length : Int) + 3) = false := decide_eq_false (by omega)
  refine vcc_sound _ _ _ tabOk (by exact rfl) ?_
  refine Br.no hc ?_
  refine WP_skip ?_
  refine WP_sub (Sub.ofL [(0, .d (.sp 1 ((ownE emp l f 3).map encStr) l.length)), (1, .d (.tl Str 1 encStr emp l)), (2, .str f)] [] (Nat.zero_le _) ⟨rfl, rfl, rfl, rfl, rfl, rfl, trivial⟩ rfl rfl) ?_
  refine WP_seq ?_
  refine WP_region ?_
  refine stepW tabOk rfl ?_
  refine stepW tabOk rfl ?_
  refine stepW tabOk rfl ?_
  refine stepW tabOk rfl ?_
  refine Ob.mk (by omega) ?_
  refine stepO rfl (op_slice_sp 23 9 1 _ _ (l.length + 3) l.length ((ownE emp l f 3).map encStr) (tabOk.el 23 _ rfl) rfl rfl (by omega)) ?_
  refine stepW tabOk rfl ?_
  refine WPL_nil ?_
  refine WP_seq ?_
  refine WP_seq ?_
  refine vcc_sound _ _ _ tabOk (by exact rfl) ?_
  refine WP_cutQ (α := Unit) (fun _ => ofL []) (fun _ => []) (WP_block (WP_loop (α := {j : Nat // j ≤ 3}) (fun j => ofL [(1, .d (.tl Str 1 encStr emp l)), (2, .str f), (7, .list 1 ((ownE emp l f 3).map encStr)), (8, .int ((l.length + j.1 : Nat) : Int))]) (fun j => []) (fun j => 3 - j.1) ⟨0, Nat.zero_le _⟩ (Sub.ofL _ _ (Nat.zero_le _) ⟨rfl, rfl, rfl, rfl, congrArg (AV.list 1) (List.take_of_length_le (by omega)), rfl, rfl, rfl, trivial⟩ rfl rfl) ?_)) ?_
  rotate_left
  · rintro ⟨⟩ env st hs
    refine WP_sub hs ?_
    refine WP_seq ?_
    refine vcc_sound _ _ _ tabOk (by exact rfl) ?_
    refine WP_ret ?_
    exact ⟨DLe.refl _, trivial⟩
  rintro ⟨j, hj⟩
  dsimp only
  refine WP_seq ?_
  refine WP_seq ?_
  refine vcc_sound _ _ _ tabOk (by exact rfl) ?_
  refine vcc_sound _ _ _ tabOk (by exact rfl) ?_
  refine Br.mk (fun hb => ?_) (fun hb => ?_)
  · have hb : decide (((l.length + j : Nat) : Int) < ((((ownE emp l f 3).map encStr).length : Nat) : Int)) = true := hb
    have hj3 : j < 3 := by have := of_decide_eq_true hb; omega
    refine vcc_sound _ _ _ tabOk (by exact rfl) ?_
    refine WP_seq ?_
    refine WP_block ?_
    refine WP_seq ?_
    refine vcc_sound _ _ _ tabOk (by exact rfl) ?_
    refine Ob.mk (by omega) ?_
    refine ⟨[dstr f], by rw [Int.toNat_natCast, List.getElem?_map, ownE_get emp l f j hj3]; rfl, ?_⟩
    refine vcc_sound _ _ _ tabOk (by exact rfl) ?_
    refine Br.no (by rw [beq_self_eq_true]; rfl) ?_
    refine vcc_sound _ _ _ tabOk (by exact rfl) ?_
    refine vcc_sound _ _ _ tabOk (by exact rfl) ?_
    refine Ob.mk (by omega) ?_
    exact ⟨⟨j + 1, hj3⟩, by show 3 - (j + 1) < 3 - j; omega, Sub.ofL _ _ (Nat.zero_le _) ⟨rfl, rfl, rfl, rfl, rfl, rfl, congrArg AV.int (show ((l.length + j : Nat) : Int) + 1 = ((l.length + (j + 1) : Nat) : Int) by omega), rfl, trivial⟩ rfl rfl⟩
  · have hb : decide (((l.length + j : Nat) : Int) < ((((ownE emp l f 3).map encStr).length : Nat) : Int)) = false := hb
    refine vcc_sound _ _ _ tabOk (by exact rfl) ?_
    exact ⟨(), Sub.ofL _ _ (Nat.zero_le _) trivial rfl rfl⟩
end Go.Proofs.Nw.K
end
section
/- Printed by a program of mine (pg.py): functions that may have no answer, and that the code comes to them. -/
open Go Go.RowKit Go.Proofs
set_option linter.unusedVariables false
set_option linter.unusedSimpArgs false
set_option maxHeartbeats 1000000
namespace Go.Proofs.Nw.K

/-! ### newel/newellaw06.OrderTells -/
def g_newellaw06_OrderTells.k21 (n : Nat) (a0 : Str) (a1 : Str) (a2 : (List Wd)) (a3 : (List Wd)) (a4 : (List Str)) (x20 : Bool) : Option (Bool) :=
  bif x20 then (
    (g_newellaw06_awake n).bind fun y23 =>
    some y23
  ) else (
    chk (a4.length ≤ 4194304) <|
    (g_order_Greatest n a4).bind fun y25 =>
    (g_newelref05_Greatest n a4).bind fun y26 =>
    (g_newellaw06_awake n).bind fun y27 =>
    bif y27 then (
      (g_order_Compare n a0 a1).bind fun y29 =>
      (g_newelref05_Compare n a0 a1).bind fun y30 =>
      bif (y29 == y30) then (
        (g_order_Words n a2 a3).bind fun y32 =>
        (g_newelref05_Words n a2 a3).bind fun y33 =>
        bif (y32 == y33) then (
          bif (y25.1.toList == y26.1.toList) then (
            bif (y25.2 == y26.2) then (
              (g_order_Sort n a4).bind fun y37 =>
              (g_newelref05_Sort n a4).bind fun y38 =>
              (g_newelhelp_Plain_string n y37 y38).bind fun y39 =>
              bif y39 then (
                chk (a4.length ≤ 4194304) <|
                some true
              ) else (
                some false
              )
            ) else (
              some false
            )
          ) else (
            some false
          )
        ) else (
          some false
        )
      ) else (
        some false
      )
    ) else (
      some false
    )
  )
def g_newellaw06_OrderTells (n : Nat) (a0 : Str) (a1 : Str) (a2 : (List Wd)) (a3 : (List Wd)) (a4 : (List Str)) : Option (Bool) :=
  (g_newellaw06_few n [a0, a1]).bind fun y42 =>
  bif (!y42) then (
    g_newellaw06_OrderTells.k21 n a0 a1 a2 a3 a4 true
  ) else (
    (g_newellaw06_few n a4).bind fun y44 =>
    bif (!y44) then (
      g_newellaw06_OrderTells.k21 n a0 a1 a2 a3 a4 true
    ) else (
      bif (decide ((a2.length : Int) > 30)) then (
        g_newellaw06_OrderTells.k21 n a0 a1 a2 a3 a4 true
      ) else (
        g_newellaw06_OrderTells.k21 n a0 a1 a2 a3 a4 (decide ((a3.length : Int) > 30))
      )
    )
  )
theorem g_newellaw06_OrderTells.ok (n : Nat) (a0 : Str) (a1 : Str) (a2 : (List Wd)) (a3 : (List Wd)) (a4 : (List Str)) (r : Bool) (h : g_newellaw06_OrderTells n a0 a1 a2 a3 a4 = some r) : Impl Tryd.prog 8 [.one (dstr a0), .one (dstr a1), .one (.tl Wd 2 encWd zWd a2), .one (.tl Wd 2 encWd zWd a3), .one (.tl Str 1 encStr emp a4)] [.one (dbool r)] := by
  refine impl_wp tabOk Tryd.func8 rfl rfl (by kernel_rfl) ?_
  unfold g_newellaw06_OrderTells at h
  refine WP_seq ?_
  refine vcc_sound _ _ _ tabOk (by exact rfl) ?_
  repeat (first | refine Ob.mk (by first | rfl | omega | assumption | exact ⟨rfl, rfl, (List.length_map _).symm⟩ | exact ⟨rfl, rfl, by rw [List.length_map]; omega⟩) ?_ | refine Br.t ?_ | refine Br.f ?_)
  refine WP_seq ?_
  refine WP_seq_cut (α := {p : Bool // g_newellaw06_OrderTells.k21 n a0 a1 a2 a3 a4 p = some r}) (fun p => ofL [(0, .str a0), (1, .str a1), (2, .d (.tl Wd 2 encWd zWd a2)), (3, .d (.tl Wd 2 encWd zWd a3)), (4, .d (.tl Str 1 encStr emp a4)), (35, .bool p.1)]) (fun p => []) ?_ ?_
  rotate_left
  · rintro ⟨x20, h⟩
    replace h : g_newellaw06_OrderTells.k21 n a0 a1 a2 a3 a4 x20 = some r := h
    unfold g_newellaw06_OrderTells.k21 at h
    try dsimp only
    refine vcc_sound _ _ _ tabOk (by exact rfl) ?_
    repeat (first | refine Ob.mk (by first | rfl | omega | assumption | exact ⟨rfl, rfl, (List.length_map _).symm⟩ | exact ⟨rfl, rfl, by rw [List.length_map]; omega⟩) ?_ | refine Br.t ?_ | refine Br.f ?_)
    refine Br.mk (fun b22 => ?_) (fun b22 => ?_)
    · replace h := bif_t b22 h
      refine WP_seq ?_
      refine vcc_sound _ _ _ tabOk (by exact rfl) ?_
      obtain ⟨y23, hy23, h⟩ := bind_some h
      repeat (first | refine Ob.mk (by first | rfl | omega | assumption | exact ⟨rfl, rfl, (List.length_map _).symm⟩ | exact ⟨rfl, rfl, by rw [List.length_map]; omega⟩) ?_ | refine Br.t ?_ | refine Br.f ?_)
      refine CallD.mk _ _ (g_newellaw06_awake.ok n y23 hy23) (by exact trivial) ?_
      repeat (first | refine Ob.mk (by first | rfl | omega | assumption | exact ⟨rfl, rfl, (List.length_map _).symm⟩ | exact ⟨rfl, rfl, by rw [List.length_map]; omega⟩) ?_ | refine Br.t ?_ | refine Br.f ?_)
      refine WP_ret ?_
      obtain rfl := Option.some.inj h
      repeat (first | refine Ob.mk (by first | rfl | omega | assumption | exact ⟨rfl, rfl, (List.length_map _).symm⟩ | exact ⟨rfl, rfl, by rw [List.length_map]; omega⟩) ?_ | refine Br.t ?_ | refine Br.f ?_)
      exact ⟨DLe.refl _, trivial⟩
    · replace h := bif_f b22 h
      refine WP_skip ?_
      refine WP_seq ?_
      refine vcc_sound _ _ _ tabOk (by exact rfl) ?_
      obtain ⟨c24, h⟩ := chk_some h
      repeat (first | refine Ob.mk (by first | rfl | omega | assumption | exact ⟨rfl, rfl, (List.length_map _).symm⟩ | exact ⟨rfl, rfl, by rw [List.length_map]; omega⟩) ?_ | refine Br.t ?_ | refine Br.f ?_)
      refine CallD.mk _ _ (Own_impl a4 (⟨#[55, 49]⟩ : Str) c24) (by exact ⟨DLe.refl _, DLe.refl _, trivial⟩) ?_
      repeat (first | refine Ob.mk (by first | rfl | omega | assumption | exact ⟨rfl, rfl, (List.length_map _).symm⟩ | exact ⟨rfl, rfl, by rw [List.length_map]; omega⟩) ?_ | refine Br.t ?_ | refine Br.f ?_)
      refine WP_seq ?_
      refine vcc_sound _ _ _ tabOk (by exact rfl) ?_
      obtain ⟨y25, hy25, h⟩ := bind_some h
      repeat (first | refine Ob.mk (by first | rfl | omega | assumption | exact ⟨rfl, rfl, (List.length_map _).symm⟩ | exact ⟨rfl, rfl, by rw [List.length_map]; omega⟩) ?_ | refine Br.t ?_ | refine Br.f ?_)
      refine CallD.mk _ _ (g_order_Greatest.ok n a4 y25 hy25) (by exact ⟨DLe.sptl emp (by rw [← List.map_take, ownE_take]), trivial⟩) ?_
      repeat (first | refine Ob.mk (by first | rfl | omega | assumption | exact ⟨rfl, rfl, (List.length_map _).symm⟩ | exact ⟨rfl, rfl, by rw [List.length_map]; omega⟩) ?_ | refine Br.t ?_ | refine Br.f ?_)
      refine WP_seq ?_
      refine vcc_sound _ _ _ tabOk (by exact rfl) ?_
      obtain ⟨y26, hy26, h⟩ := bind_some h
      repeat (first | refine Ob.mk (by first | rfl | omega | assumption | exact ⟨rfl, rfl, (List.length_map _).symm⟩ | exact ⟨rfl, rfl, by rw [List.length_map]; omega⟩) ?_ | refine Br.t ?_ | refine Br.f ?_)
      refine CallD.mk _ _ (g_newelref05_Greatest.ok n a4 y26 hy26) (by exact ⟨DLe.refl _, trivial⟩) ?_
      repeat (first | refine Ob.mk (by first | rfl | omega | assumption | exact ⟨rfl, rfl, (List.length_map _).symm⟩ | exact ⟨rfl, rfl, by rw [List.length_map]; omega⟩) ?_ | refine Br.t ?_ | refine Br.f ?_)
      refine WP_seq ?_
      refine vcc_sound _ _ _ tabOk (by exact rfl) ?_
      obtain ⟨y27, hy27, h⟩ := bind_some h
      repeat (first | refine Ob.mk (by first | rfl | omega | assumption | exact ⟨rfl, rfl, (List.length_map _).symm⟩ | exact ⟨rfl, rfl, by rw [List.length_map]; omega⟩) ?_ | refine Br.t ?_ | refine Br.f ?_)
      refine CallD.mk _ _ (g_newellaw06_awake.ok n y27 hy27) (by exact trivial) ?_
      repeat (first | refine Ob.mk (by first | rfl | omega | assumption | exact ⟨rfl, rfl, (List.length_map _).symm⟩ | exact ⟨rfl, rfl, by rw [List.length_map]; omega⟩) ?_ | refine Br.t ?_ | refine Br.f ?_)
      refine Br.mk (fun b28 => ?_) (fun b28 => ?_)
      · replace h := bif_t b28 h
        obtain ⟨y29, hy29, h⟩ := bind_some h
        repeat (first | refine Ob.mk (by first | rfl | omega | assumption | exact ⟨rfl, rfl, (List.length_map _).symm⟩ | exact ⟨rfl, rfl, by rw [List.length_map]; omega⟩) ?_ | refine Br.t ?_ | refine Br.f ?_)
        refine CallD.mk _ _ (g_order_Compare.ok n a0 a1 y29 hy29) (by exact ⟨DLe.refl _, DLe.refl _, trivial⟩) ?_
        obtain ⟨y30, hy30, h⟩ := bind_some h
        repeat (first | refine Ob.mk (by first | rfl | omega | assumption | exact ⟨rfl, rfl, (List.length_map _).symm⟩ | exact ⟨rfl, rfl, by rw [List.length_map]; omega⟩) ?_ | refine Br.t ?_ | refine Br.f ?_)
        refine CallD.mk _ _ (g_newelref05_Compare.ok n a0 a1 y30 hy30) (by exact ⟨DLe.refl _, DLe.refl _, trivial⟩) ?_
        repeat (first | refine Ob.mk (by first | rfl | omega | assumption | exact ⟨rfl, rfl, (List.length_map _).symm⟩ | exact ⟨rfl, rfl, by rw [List.length_map]; omega⟩) ?_ | refine Br.t ?_ | refine Br.f ?_)
        refine Br.mk (fun b31 => ?_) (fun b31 => ?_)
        · replace h := bif_t b31 h
          obtain ⟨y32, hy32, h⟩ := bind_some h
          repeat (first | refine Ob.mk (by first | rfl | omega | assumption | exact ⟨rfl, rfl, (List.length_map _).symm⟩ | exact ⟨rfl, rfl, by rw [List.length_map]; omega⟩) ?_ | refine Br.t ?_ | refine Br.f ?_)
          refine CallD.mk _ _ (g_order_Words.ok n a2 a3 y32 hy32) (by exact ⟨DLe.refl _, DLe.refl _, trivial⟩) ?_
          obtain ⟨y33, hy33, h⟩ := bind_some h
          repeat (first | refine Ob.mk (by first | rfl | omega | assumption | exact ⟨rfl, rfl, (List.length_map _).symm⟩ | exact ⟨rfl, rfl, by rw [List.length_map]; omega⟩) ?_ | refine Br.t ?_ | refine Br.f ?_)
          refine CallD.mk _ _ (g_newelref05_Words.ok n a2 a3 y33 hy33) (by exact ⟨DLe.refl _, DLe.refl _, trivial⟩) ?_
          repeat (first | refine Ob.mk (by first | rfl | omega | assumption | exact ⟨rfl, rfl, (List.length_map _).symm⟩ | exact ⟨rfl, rfl, by rw [List.length_map]; omega⟩) ?_ | refine Br.t ?_ | refine Br.f ?_)
          refine Br.mk (fun b34 => ?_) (fun b34 => ?_)
          · replace h := bif_t b34 h
            repeat (first | refine Ob.mk (by first | rfl | omega | assumption | exact ⟨rfl, rfl, (List.length_map _).symm⟩ | exact ⟨rfl, rfl, by rw [List.length_map]; omega⟩) ?_ | refine Br.t ?_ | refine Br.f ?_)
            refine Br.mk (fun b35 => ?_) (fun b35 => ?_)
            · replace h := bif_t b35 h
              repeat (first | refine Ob.mk (by first | rfl | omega | assumption | exact ⟨rfl, rfl, (List.length_map _).symm⟩ | exact ⟨rfl, rfl, by rw [List.length_map]; omega⟩) ?_ | refine Br.t ?_ | refine Br.f ?_)
              refine Br.mk (fun b36 => ?_) (fun b36 => ?_)
              · replace h := bif_t b36 h
                obtain ⟨y37, hy37, h⟩ := bind_some h
                repeat (first | refine Ob.mk (by first | rfl | omega | assumption | exact ⟨rfl, rfl, (List.length_map _).symm⟩ | exact ⟨rfl, rfl, by rw [List.length_map]; omega⟩) ?_ | refine Br.t ?_ | refine Br.f ?_)
                refine CallD.mk _ _ (g_order_Sort.ok n a4 y37 hy37) (by exact ⟨DLe.sptl emp (by rw [← List.map_take, ownE_take]), trivial⟩) ?_
                obtain ⟨y38, hy38, h⟩ := bind_some h
                repeat (first | refine Ob.mk (by first | rfl | omega | assumption | exact ⟨rfl, rfl, (List.length_map _).symm⟩ | exact ⟨rfl, rfl, by rw [List.length_map]; omega⟩) ?_ | refine Br.t ?_ | refine Br.f ?_)
                refine CallD.mk _ _ (g_newelref05_Sort.ok n a4 y38 hy38) (by exact ⟨DLe.refl _, trivial⟩) ?_
                obtain ⟨y39, hy39, h⟩ := bind_some h
                repeat (first | refine Ob.mk (by first | rfl | omega | assumption | exact ⟨rfl, rfl, (List.length_map _).symm⟩ | exact ⟨rfl, rfl, by rw [List.length_map]; omega⟩) ?_ | refine Br.t ?_ | refine Br.f ?_)
                refine CallD.mk _ _ (g_newelhelp_Plain_string.ok n y37 y38 y39 hy39) (by exact ⟨DLe.refl _, DLe.refl _, trivial⟩) ?_
                repeat (first | refine Ob.mk (by first | rfl | omega | assumption | exact ⟨rfl, rfl, (List.length_map _).symm⟩ | exact ⟨rfl, rfl, by rw [List.length_map]; omega⟩) ?_ | refine Br.t ?_ | refine Br.f ?_)
                refine Br.mk (fun b40 => ?_) (fun b40 => ?_)
                · replace h := bif_t b40 h
                  obtain ⟨c41, h⟩ := chk_some h
                  repeat (first | refine Ob.mk (by first | rfl | omega | assumption | exact ⟨rfl, rfl, (List.length_map _).symm⟩ | exact ⟨rfl, rfl, by rw [List.length_map]; omega⟩) ?_ | refine Br.t ?_ | refine Br.f ?_)
                  refine CallD.mk _ _ (Kept_impl a4 (⟨#[55, 49]⟩ : Str) c41) (by exact ⟨DLe.refl _, DLe.refl _, DLe.refl _, trivial⟩) ?_
                  repeat (first | refine Ob.mk (by first | rfl | omega | assumption | exact ⟨rfl, rfl, (List.length_map _).symm⟩ | exact ⟨rfl, rfl, by rw [List.length_map]; omega⟩) ?_ | refine Br.t ?_ | refine Br.f ?_)
                  refine WP_ret ?_
                  obtain rfl := Option.some.inj h
                  repeat (first | refine Ob.mk (by first | rfl | omega | assumption | exact ⟨rfl, rfl, (List.length_map _).symm⟩ | exact ⟨rfl, rfl, by rw [List.length_map]; omega⟩) ?_ | refine Br.t ?_ | refine Br.f ?_)
                  exact ⟨DLe.refl _, trivial⟩
                · replace h := bif_f b40 h
                  repeat (first | refine Ob.mk (by first | rfl | omega | assumption | exact ⟨rfl, rfl, (List.length_map _).symm⟩ | exact ⟨rfl, rfl, by rw [List.length_map]; omega⟩) ?_ | refine Br.t ?_ | refine Br.f ?_)
                  refine WP_ret ?_
                  obtain rfl := Option.some.inj h
                  repeat (first | refine Ob.mk (by first | rfl | omega | assumption | exact ⟨rfl, rfl, (List.length_map _).symm⟩ | exact ⟨rfl, rfl, by rw [List.length_map]; omega⟩) ?_ | refine Br.t ?_ | refine Br.f ?_)
                  exact ⟨DLe.refl _, trivial⟩
              · replace h := bif_f b36 h
                repeat (first | refine Ob.mk (by first | rfl | omega | assumption | exact ⟨rfl, rfl, (List.length_map _).symm⟩ | exact ⟨rfl, rfl, by rw [List.length_map]; omega⟩) ?_ | refine Br.t ?_ | refine Br.f ?_)
                refine WP_ret ?_
                obtain rfl := Option.some.inj h
                repeat (first | refine Ob.mk (by first | rfl | omega | assumption | exact ⟨rfl, rfl, (List.length_map _).symm⟩ | exact ⟨rfl, rfl, by rw [List.length_map]; omega⟩) ?_ | refine Br.t ?_ | refine Br.f ?_)
                exact ⟨DLe.refl _, trivial⟩
            · replace h := bif_f b35 h
              repeat (first | refine Ob.mk (by first | rfl | omega | assumption | exact ⟨rfl, rfl, (List.length_map _).symm⟩ | exact ⟨rfl, rfl, by rw [List.length_map]; omega⟩) ?_ | refine Br.t ?_ | refine Br.f ?_)
              refine WP_ret ?_
              obtain rfl := Option.some.inj h
              repeat (first | refine Ob.mk (by first | rfl | omega | assumption | exact ⟨rfl, rfl, (List.length_map _).symm⟩ | exact ⟨rfl, rfl, by rw [List.length_map]; omega⟩) ?_ | refine Br.t ?_ | refine Br.f ?_)
              exact ⟨DLe.refl _, trivial⟩
          · replace h := bif_f b34 h
            repeat (first | refine Ob.mk (by first | rfl | omega | assumption | exact ⟨rfl, rfl, (List.length_map _).symm⟩ | exact ⟨rfl, rfl, by rw [List.length_map]; omega⟩) ?_ | refine Br.t ?_ | refine Br.f ?_)
            refine WP_ret ?_
            obtain rfl := Option.some.inj h
            repeat (first | refine Ob.mk (by first | rfl | omega | assumption | exact ⟨rfl, rfl, (List.length_map _).symm⟩ | exact ⟨rfl, rfl, by rw [List.length_map]; omega⟩) ?_ | refine Br.t ?_ | refine Br.f ?_)
            exact ⟨DLe.refl _, trivial⟩
        · replace h := bif_f b31 h
          repeat (first | refine Ob.mk (by first | rfl | omega | assumption | exact ⟨rfl, rfl, (List.length_map _).symm⟩ | exact ⟨rfl, rfl, by rw [List.length_map]; omega⟩) ?_ | refine Br.t ?_ | refine Br.f ?_)
          refine WP_ret ?_
          obtain rfl := Option.some.inj h
          repeat (first | refine Ob.mk (by first | rfl | omega | assumption | exact ⟨rfl, rfl, (List.length_map _).symm⟩ | exact ⟨rfl, rfl, by rw [List.length_map]; omega⟩) ?_ | refine Br.t ?_ | refine Br.f ?_)
          exact ⟨DLe.refl _, trivial⟩
      · replace h := bif_f b28 h
        repeat (first | refine Ob.mk (by first | rfl | omega | assumption | exact ⟨rfl, rfl, (List.length_map _).symm⟩ | exact ⟨rfl, rfl, by rw [List.length_map]; omega⟩) ?_ | refine Br.t ?_ | refine Br.f ?_)
        refine WP_ret ?_
        obtain rfl := Option.some.inj h
        repeat (first | refine Ob.mk (by first | rfl | omega | assumption | exact ⟨rfl, rfl, (List.length_map _).symm⟩ | exact ⟨rfl, rfl, by rw [List.length_map]; omega⟩) ?_ | refine Br.t ?_ | refine Br.f ?_)
        exact ⟨DLe.refl _, trivial⟩
  refine vcc_sound _ _ _ tabOk (by exact rfl) ?_
  repeat (first | refine Ob.mk (by first | rfl | omega | assumption | exact ⟨rfl, rfl, (List.length_map _).symm⟩ | exact ⟨rfl, rfl, by rw [List.length_map]; omega⟩) ?_ | refine Br.t ?_ | refine Br.f ?_)
  refine NewS.ty encStr emp [a0, a1] rfl ?_
  obtain ⟨y42, hy42, h⟩ := bind_some h
  repeat (first | refine Ob.mk (by first | rfl | omega | assumption | exact ⟨rfl, rfl, (List.length_map _).symm⟩ | exact ⟨rfl, rfl, by rw [List.length_map]; omega⟩) ?_ | refine Br.t ?_ | refine Br.f ?_)
  refine CallD.mk _ _ (g_newellaw06_few.ok n [a0, a1] y42 hy42) (by exact ⟨DLe.refl _, trivial⟩) ?_
  repeat (first | refine Ob.mk (by first | rfl | omega | assumption | exact ⟨rfl, rfl, (List.length_map _).symm⟩ | exact ⟨rfl, rfl, by rw [List.length_map]; omega⟩) ?_ | refine Br.t ?_ | refine Br.f ?_)
  refine Br.mk (fun b43 => ?_) (fun b43 => ?_)
  · replace h := bif_t b43 h
    repeat (first | refine Ob.mk (by first | rfl | omega | assumption | exact ⟨rfl, rfl, (List.length_map _).symm⟩ | exact ⟨rfl, rfl, by rw [List.length_map]; omega⟩) ?_ | refine Br.t ?_ | refine Br.f ?_)
    repeat (first | refine Ob.mk (by first | rfl | omega | assumption | exact ⟨rfl, rfl, (List.length_map _).symm⟩ | exact ⟨rfl, rfl, by rw [List.length_map]; omega⟩) ?_ | refine Br.t ?_ | refine Br.f ?_)
    exact ⟨⟨true, h⟩, Sub.ofL _ _ (Nat.zero_le _) ⟨rfl, rfl, rfl, rfl, rfl, rfl, rfl, rfl, rfl, rfl, rfl, rfl, trivial⟩ rfl rfl⟩
  · replace h := bif_f b43 h
    obtain ⟨y44, hy44, h⟩ := bind_some h
    repeat (first | refine Ob.mk (by first | rfl | omega | assumption | exact ⟨rfl, rfl, (List.length_map _).symm⟩ | exact ⟨rfl, rfl, by rw [List.length_map]; omega⟩) ?_ | refine Br.t ?_ | refine Br.f ?_)
    refine CallD.mk _ _ (g_newellaw06_few.ok n a4 y44 hy44) (by exact ⟨DLe.refl _, trivial⟩) ?_
    repeat (first | refine Ob.mk (by first | rfl | omega | assumption | exact ⟨rfl, rfl, (List.length_map _).symm⟩ | exact ⟨rfl, rfl, by rw [List.length_map]; omega⟩) ?_ | refine Br.t ?_ | refine Br.f ?_)
    refine Br.mk (fun b45 => ?_) (fun b45 => ?_)
    · replace h := bif_t b45 h
      repeat (first | refine Ob.mk (by first | rfl | omega | assumption | exact ⟨rfl, rfl, (List.length_map _).symm⟩ | exact ⟨rfl, rfl, by rw [List.length_map]; omega⟩) ?_ | refine Br.t ?_ | refine Br.f ?_)
      repeat (first | refine Ob.mk (by first | rfl | omega | assumption | exact ⟨rfl, rfl, (List.length_map _).symm⟩ | exact ⟨rfl, rfl, by rw [List.length_map]; omega⟩) ?_ | refine Br.t ?_ | refine Br.f ?_)
      exact ⟨⟨true, h⟩, Sub.ofL _ _ (Nat.zero_le _) ⟨rfl, rfl, rfl, rfl, rfl, rfl, rfl, rfl, rfl, rfl, rfl, rfl, trivial⟩ rfl rfl⟩
    · replace h := bif_f b45 h
      repeat (first | refine Ob.mk (by first | rfl | omega | assumption | exact ⟨rfl, rfl, (List.length_map _).symm⟩ | exact ⟨rfl, rfl, by rw [List.length_map]; omega⟩) ?_ | refine Br.t ?_ | refine Br.f ?_)
      refine Br.mk (fun b46 => ?_) (fun b46 => ?_)
      · replace h := bif_t b46 h
        repeat (first | refine Ob.mk (by first | rfl | omega | assumption | exact ⟨rfl, rfl, (List.length_map _).symm⟩ | exact ⟨rfl, rfl, by rw [List.length_map]; omega⟩) ?_ | refine Br.t ?_ | refine Br.f ?_)
        repeat (first | refine Ob.mk (by first | rfl | omega | assumption | exact ⟨rfl, rfl, (List.length_map _).symm⟩ | exact ⟨rfl, rfl, by rw [List.length_map]; omega⟩) ?_ | refine Br.t ?_ | refine Br.f ?_)
        exact ⟨⟨true, h⟩, Sub.ofL _ _ (Nat.zero_le _) ⟨rfl, rfl, rfl, rfl, rfl, rfl, rfl, rfl, rfl, rfl, rfl, rfl, trivial⟩ rfl rfl⟩
      · replace h := bif_f b46 h
        repeat (first | refine Ob.mk (by first | rfl | omega | assumption | exact ⟨rfl, rfl, (List.length_map _).symm⟩ | exact ⟨rfl, rfl, by rw [List.length_map]; omega⟩) ?_ | refine Br.t ?_ | refine Br.f ?_)
        repeat (first | refine Ob.mk (by first | rfl | omega | assumption | exact ⟨rfl, rfl, (List.length_map _).symm⟩ | exact ⟨rfl, rfl, by rw [List.length_map]; omega⟩) ?_ | refine Br.t ?_ | refine Br.f ?_)
        exact ⟨⟨decide ((a3.length : Int) > 30), h⟩, Sub.ofL _ _ (Nat.zero_le _) ⟨rfl, rfl, rfl, rfl, rfl, rfl, rfl, rfl, rfl, rfl, rfl, rfl, trivial⟩ rfl rfl⟩

end Go.Proofs.Nw.K
end
section
/- QL9: plain law OrderTells. -/
open Go Go.RowKit Go.Proofs Go.Sort Go.Shelf
set_option linter.unusedVariables false
set_option linter.unusedSimpArgs false
namespace Go.Proofs.Nw.K

theorem last_sorted (l : List Str) (g : Str) (hg : g ∈ l) (hm : ∀ x ∈ l, wholeC x g ≤ 0) : (sortV l).getD ((((sortV l).length : Int) - 1).toNat) emp = g := by
  have hlen := sortV_length l
  have hpos : 0 < l.length := List.length_pos_of_mem hg
  have hi : ((((sortV l).length : Int) - 1).toNat) < (sortV l).length := by omega
  have e : (sortV l).getD ((((sortV l).length : Int) - 1).toNat) emp = (sortV l)[(((sortV l).length : Int) - 1).toNat] := by rw [List.getD_eq_getElem?_getD, List.getElem?_eq_getElem hi]; rfl
  rw [e]
  have hgm : g ∈ sortV l := (sortV_perm l).mem_iff.2 hg
  obtain ⟨j, hj, hgj⟩ := List.getElem_of_mem hgm
  have ht : (sortV l)[(((sortV l).length : Int) - 1).toNat] ∈ l := (sortV_perm l).mem_iff.1 (List.getElem_mem hi)
  have h1 := hm _ ht
  have h2 : wholeC g (sortV l)[(((sortV l).length : Int) - 1).toNat] ≤ 0 := by
    by_cases hjj : j = (((sortV l).length : Int) - 1).toNat
    · subst hjj
      rw [hgj, totC.refl]; omega
    · rw [← hgj]
      exact List.pairwise_iff_getElem.1 (sortV_pair l) j _ hj hi (by omega)
  exact (wholeC_zero (by have := totC.anti g (sortV l)[(((sortV l).length : Int) - 1).toNat]; omega)).symm
theorem rGreatest_eq (n : Nat) (l : List Str) (hl : l.length ≤ 20) (hn : 200 ≤ n) (hs : ∀ x ∈ l, x.size ≤ 100) : g_newelref05_Greatest n l = g_order_Greatest n l := by
  rcases greatest_eq n (by omega) l hl hs with ⟨h0, hg⟩ | ⟨g, hg, hgm, hgt⟩
  · rw [hg, h0]; rfl
  · have hpos : 0 < l.length := List.length_pos_of_mem hgm
    have hlen := sortV_length l
    rw [hg]
    unfold g_newelref05_Greatest
    rw [show ((l.length : Int) == 0) = false from beq_eq_false_iff_ne.2 (by omega), cond_false, rSort_eq n l (by omega) (by omega) (fun x hx => by have := hs x hx; omega), Option.bind_some, chk_t (by unfold in64; omega), chk_t ⟨by omega, by omega⟩, last_sorted l g hgm hgt]
theorem orderTells_eq (n : Nat) (a b : Str) (x y : List Wd) (l : List Str) (hn : l.length + 200 ≤ n) (hl : l.length ≤ 4194304) (hx : ∀ w ∈ x, w.text.size ≤ maxLen) (hy : ∀ w ∈ y, w.text.size ≤ maxLen) : g_newellaw06_OrderTells n a b x y l = some true := by
  have aw : g_newellaw06_OrderTells.k21 n a b x y l true = some true := by
    unfold g_newellaw06_OrderTells.k21
    rw [cond_true, awake_eq' n (by omega)]; rfl
  unfold g_newellaw06_OrderTells
  rw [few_eq n [a, b] (by show 2 < n; omega) (by show 2 ≤ _; omega), Option.bind_some]
  cases h1 : fewAt [a, b] 0 with
  | false => rw [Bool.not_false, cond_true]; exact aw
  | true =>
    simp [fewAt] at h1
    rw [Bool.not_true, cond_false, few_eq n l (by omega) hl, Option.bind_some]
    cases h2 : fewAt l 0 with
    | false => rw [Bool.not_false, cond_true]; exact aw
    | true =>
      simp only [fewAt, List.drop_zero, Bool.and_eq_true, List.all_eq_true, decide_eq_true_eq] at h2
      rw [Bool.not_true, cond_false]
      by_cases h3 : (x.length : Int) > 30
      · rw [decide_eq_true h3, cond_true]; exact aw
      · rw [decide_eq_false h3, cond_false]
        by_cases h4 : (y.length : Int) > 30
        · rw [decide_eq_true h4]; exact aw
        · rw [decide_eq_false h4]
          unfold g_newellaw06_OrderTells.k21
          have hgt : ∃ g, g_order_Greatest n l = some g := by
            rcases greatest_eq n (by omega) l h2.2 h2.1 with ⟨_, hg⟩ | ⟨g, hg, _⟩
            · exact ⟨_, hg⟩
            · exact ⟨_, hg⟩
          obtain ⟨g, hg⟩ := hgt
          have hw : g_order_Words n x y = some (wordsCmp x y) := chk_t ⟨by omega, by omega, hx, hy⟩
          rw [cond_false, chk_t hl, rGreatest_eq n l h2.2 (by omega) h2.1, hg, Option.bind_some, Option.bind_some, awake_eq' n (by omega), Option.bind_some, cond_true, g_order_Compare_eq n a b (by omega) (by omega), Option.bind_some,
            rCompare_eq n a b (by omega) (by omega) (by omega) (by omega), Option.bind_some, beq_self_eq_true, cond_true, hw, Option.bind_some, rWords_eq n x y (by omega) (by omega) (by omega), Option.bind_some, beq_self_eq_true, cond_true,
            beq_self_eq_true, cond_true, beq_self_eq_true, cond_true, sort_eq n l (by omega) (fun x hx => by have := h2.1 x hx; omega), Option.bind_some, rSort_eq n l (by omega) (by omega) (fun x hx => by have := h2.1 x hx; omega), Option.bind_some,
            plain_eq n _ _ (by rw [sortV_length]; omega) (by rw [sortV_length]; omega), Option.bind_some, decide_eq_true rfl, cond_true, chk_t hl]
theorem OrderTells_impl (a b : Str) (x y : List Wd) (l : List Str) (_ : a.size ≤ maxLen) (_ : b.size ≤ maxLen) (_ : x.length ≤ maxLen ∧ ∀ s ∈ x, True) (_ : y.length ≤ maxLen ∧ ∀ s ∈ y, True) (_ : l.length ≤ maxLen ∧ ∀ s ∈ l, s.size ≤ maxLen)
    (h : a.size + 1 + (b.size + 1) + ((x.map Wd.wt).sum + 1) + ((y.map Wd.wt).sum + 1) + ((l.map (fun s => s.size + 1)).sum + 1) ≤ 1048576) :
    Impl Tryd.prog 8 [.one (dstr a), .one (dstr b), .one (.tl Wd 2 encWd zWd x), .one (.tl Wd 2 encWd zWd y), .one (.tl Str 1 encStr emp l)] [.one (.sc (.bool true))] := by
  have e : ∀ l : List Str, l.length ≤ (l.map (fun s => s.size + 1)).sum := fun l => by induction l with
    | nil => exact Nat.le_refl _
    | cons x r ih => simp only [List.map_cons, List.sum_cons, List.length_cons]; omega
  have e2 : ∀ (x : List Wd) w, w ∈ x → w.text.size ≤ (x.map Wd.wt).sum := fun x w hw => by
    induction x with
    | nil => cases hw
    | cons v r ih =>
      simp only [List.map_cons, List.sum_cons]
      rcases List.mem_cons.1 hw with rfl | hw
      · unfold Wd.wt; omega
      · have := ih hw; omega
  have hm : (1048576 : Nat) ≤ maxLen := by decide
  have h0 := e l
  exact g_newellaw06_OrderTells.ok (l.length + 200) a b x y l true (orderTells_eq _ a b x y l (Nat.le_refl _) (by omega) (fun w hw => by have := e2 x w hw; omega) (fun w hw => by have := e2 y w hw; omega))
end Go.Proofs.Nw.K
end
