/- Bundle: NwX9, NwK21, NwK28, NwV1, NwK19, NwK22, NwV2, NwK24, NwK25, NwV3, NwK30, NwK31, NwK32, NwX10. -/
import Derived.Test.YtbooikopklijdaaGreatDoorNwN2
import Derived.ChangeArms
import Derived.WideShapes
import Derived.Laws.MakeOwn
import Derived.WideKeyRuns
set_option linter.constructorNameAsVariable false
set_option linter.unusedVariables false
set_option linter.unusedSimpArgs false
set_option linter.unusedSectionVars false
section
/- X9: append as an operation; texts to bytes and back. -/
open Go Go.RowKit
set_option linter.unusedVariables false
set_option linter.unusedSimpArgs false
namespace Go.Proofs.Nw.X
open Go.Proofs.Nw.K
section
variable {P : Program} {T : Tab} (hT : TabOk P T) {E : Operand → V} {h : H} {n : Id} {k : KV}
theorem app_exec {t u : TypeId} {x y : Operand} {o : Oper} (ho : o.op = .call { callee := .builtin .append, args := #[x, y], argTypes := #[t, u] }) {ρ : Operand → Value} {w w' : World} {v : Value}
    (hr : (Builtin.append_ #[t, u] o.type #[ρ x, ρ y]).run P w = .ok v w') : (execOp ρ o).run P w = .ok (.value v) w' := by
  simp [execOp, ho, resolve, invoke, builtin, hr]
include hT in
theorem app_ok (t u : TypeId) (x y : Operand) : Ob P (.call { callee := .builtin .append, args := #[x, y], argTypes := #[t, u] }) E h n k (evApp T t u (E x) (E y) h n k) := by
  have mx : x ∈ (Op.call { callee := .builtin .append, args := #[x, y], argTypes := #[t, u] }).operands := by simp [Op.operands, Call.operands]
  have my : y ∈ (Op.call { callee := .builtin .append, args := #[x, y], argTypes := #[t, u] }).operands := by simp [Op.operands, Call.operands]
  unfold evApp
  split
  ·
    rename_i e hbb
    obtain ⟨hu, i, hi, hz, hs, hby⟩ := byteT_spec (hT.bb _ _ hbb)
    intro r hr
    obtain ⟨m, ys, hr, hS⟩ := srcB_ok hT hr
    rw [ble_eq] at hr
    by_cases c0 : m ≤ 16777216
    case neg => simp only [c0, decide_false, cond_false] at hr; cases hr
    simp only [c0, decide_true, cond_true] at hr
    unfold evAppB at hr
    split at hr
    · rename_i hx
      rw [beq_eq] at hr
      by_cases c1 : m = 0
      · simp only [c1, decide_true, cond_true] at hr
        refine ⟨_, _, _, hr, fun o ho w0 ι ρ w hb hρ => ?_⟩
        have h1 := hρ x mx
        rw [hx] at h1
        have h1 : ρ x = _ := h1
        obtain ⟨bs, S, b1, b2⟩ := hS w0 ι w _ hb (hρ y my)
        subst c1
        rw [app_exec ho (by rw [h1]; exact run_app_nil0 S hu hi hs (Nat.le_refl _))]
        exact ⟨ι, Ext.refl _, hb, rfl⟩
      · simp only [c1, decide_false, cond_false] at hr
        split at hr
        · rename_i n' hn
          rw [fN_eq] at hr
          refine ⟨_, _, _, hr, fun o ho w0 ι ρ w hb hρ => ?_⟩
          have h1 := hρ x mx
          rw [hx] at h1
          have h1 : ρ x = _ := h1
          obtain ⟨bs, S, b1, b2⟩ := hS w0 ι w _ hb (hρ y my)
          obtain ⟨w', vals', r1, r2, r3, r4, r5, r6, r7, r8, r9⟩ := app_run0 (ty := o.type) S hu hi hz hs rfl (by omega) (by omega) hb c0
          rw [app_exec ho (by rw [h1]; exact r1)]
          refine ⟨_, hb.ext ⟨w.heap.size, 0, vals'.size⟩, hb.alloc hn r2 r3 _ _ rfl r4 ⟨vals', e, (0, 0), bs, r5, rfl, by show 0 + m ≤ vals'.size; omega, b1, b2, fun i b hib => ?_, fun off _ _ => (by show ¬ (0 ≤ off ∧ off < 0); omega), fun _ => ⟨rfl, rfl, rfl⟩⟩,
            ⟨w.heap.size, 0, vals'.size⟩, _, upI_same _ _ _, r8, r9, .inl ⟨by omega, by show 0 + 0 + _ * 1 ≤ vals'.size; omega, by simp⟩⟩
          have hi' : i < m := by have := (List.getElem?_eq_some_iff.1 hib).1; omega
          have : (vals'.toList.take (m * 1))[i]? = some (.int .u8 (b.toNat : Int)) := by rw [r7]; simp [byteVs, hib]
          rw [List.getElem?_take_of_lt (by omega)] at this
          simpa using this
        · cases hr
    · rename_i o' sz' off len hx
      rw [beq_eq, beq_eq] at hr
      by_cases cs : sz' = 1
      case neg => simp only [cs, decide_false, cond_false] at hr; cases hr
      subst cs
      simp only [decide_true, cond_true] at hr
      by_cases c1 : m = 0
      · simp only [c1, decide_true, cond_true] at hr
        refine ⟨_, _, _, hr, fun o ho w0 ι ρ w hb hρ => ?_⟩
        have h1 := hρ x mx
        obtain ⟨bs, S, b1, b2⟩ := hS w0 ι w _ hb (hρ y my)
        subst c1
        have h1' := h1
        rw [hx] at h1'
        obtain ⟨pl, c, _, h2, _, ⟨_, _, h3⟩ | ⟨h4, a, h3⟩⟩ := h1'
        · rw [app_exec ho (by rw [h3]; exact run_app_nil0 S hu hi hs h2)]
          exact ⟨ι, Ext.refl _, hb, by rw [← h3]; exact h1⟩
        · rw [app_exec ho (by rw [h3]; exact run_app_nil0 S hu hi hs (Nat.le_refl _))]
          exact ⟨ι, Ext.refl _, hb, by rw [← h3]; exact h1⟩
      · simp only [c1, decide_false, cond_false] at hr
        split at hr
        · rename_i ty fz l b hg
          rw [ble_eq, ble_eq, ble_eq] at hr
          by_cases c2 : off + len ≤ l
          case neg => simp only [c2, decide_false, cond_false] at hr; cases hr
          by_cases c3 : fz ≤ off + len
          case neg => simp only [c2, c3, decide_true, decide_false, cond_true, cond_false] at hr; cases hr
          by_cases c4 : len + m ≤ 16777216
          case neg => simp only [c2, c3, c4, decide_true, decide_false, cond_true, cond_false] at hr; cases hr
          simp only [c2, c3, c4, decide_true, cond_true] at hr
          split at hr
          · rename_i n' hn
            rw [fN_eq, fN_eq] at hr
            refine ⟨_, _, _, hr, fun o ho w0 ι ρ w hb hρ => ?_⟩
            have h1 := hρ x mx
            rw [hx] at h1
            obtain ⟨bs, S, b1, b2⟩ := hS w0 ι w _ hb (hρ y my)
            obtain ⟨pl, c, e1, _⟩ := id h1
            obtain ⟨vals, e', fr, bo, g1, g2, g3, g4, g5, g6, g7, g8⟩ := hb.obj _ _ _ e1 hg
            obtain ⟨v, w', pl', vals', e'', fr', r1, r2, r3, r4, r5, r6, r7, r8, r9, r10, r11, ⟨cc, d1, d2, d3, d4, d5⟩, hor⟩ := app_run (ty := o.type) S hu hi hz hs rfl (by omega) (by omega) h1 hb c4 e1 g1 g2 (fz := fz) (by omega) g7 (.inr (by omega))
            rw [app_exec ho r1]
            have hx2 : OOk (upI ι n pl') w' pl' (.bs (cond (Nat.beq off 0) (cond (Nat.beq ty (Nat.succ e)) (Nat.succ e) 0) 0) (fz - off) (len + m) (b / 256 ^ (l - (off + len)) % 256 ^ len * 256 ^ m + ys)) := by
              have hbl : ((bo.take (off + len)).drop off).length = len := by simp; omega
              refine ⟨vals', e'', fr', (bo.take (off + len)).drop off ++ bs, r6, r7, by omega, by rw [List.length_append, hbl, b1], ?_, fun i c hic => ?_, r11, fun hty => ?_⟩
              · have e9 : (bo.take (off + len)).length - off = len := by simp; omega
                rw [valB_app, valB_drop _ _ (by simp; omega), valB_take _ _ (by omega), g4, g5, b1, b2, e9]
              · rw [List.getElem?_append] at hic
                split at hic
                · rename_i hlt
                  rw [r9 i (by omega)]
                  rw [List.getElem?_drop, List.getElem?_take] at hic
                  split at hic
                  · rw [Nat.add_assoc]; exact g6 _ _ hic
                  · cases hic
                · rename_i hge
                  rw [hbl] at hic hge
                  have hlt : i - len < m := by have := (List.getElem?_eq_some_iff.1 hic).1; omega
                  have := r10 (i - len) (by omega)
                  rw [show pl'.m + len * 1 + (i - len) = pl'.m + i by omega] at this
                  rw [this]; simp [byteVs, hic]
              · rw [beq_eq, beq_eq] at hty ⊢
                by_cases q1 : off = 0
                case neg => simp only [q1, decide_false, cond_false] at hty; exact absurd rfl hty
                by_cases q2 : ty = Nat.succ e
                case neg => simp only [q1, q2, decide_true, decide_false, cond_true, cond_false] at hty; exact absurd rfl hty
                simp only [q1, q2, decide_true, cond_true]
                rcases hor with ⟨z1, z2, z5⟩ | ⟨z1, z2, z5⟩
                · obtain ⟨z3, z4, z6⟩ := g8 (by rw [q2]; exact Nat.succ_ne_zero _)
                  exact ⟨by rw [z1, z3, q2], by rw [z2, z4, q1], by rw [z5]; exact z6⟩
                · exact ⟨by rw [z1], z2, by rw [z5]⟩
            exact ⟨_, hb.ext pl', hb.move hn e1 ⟨_, hg, by intro e; cases e⟩ r2 r3 pl' _ r4 r5 hx2, pl', cc, upI_same _ _ _, d1, d2, .inl ⟨d3, d4, d5⟩⟩
          · cases hr
        · cases hr
    · cases hr
  ·
    split
    · rename_i e sz by_ hap
      obtain ⟨hu, i, z, hi, hz, hs, hby, hzs, hpos⟩ := appT_spec (hT.ap _ _ hap)
      rw [ble_eq]
      refine ob_cond fun cb => ?_
      have cb := of_decide_eq_true cb
      intro r hr
      obtain ⟨m, ys, hr, hyl, hS⟩ := srcK_ok hT hr
      rw [ble_eq] at hr
      by_cases c0 : m ≤ 16777216
      case neg => simp only [c0, decide_false, cond_false] at hr; cases hr
      simp only [c0, decide_true, cond_true] at hr
      unfold evAppK at hr
      split at hr
      · rename_i hx
        rw [beq_eq] at hr
        by_cases c1 : m = 0
        · simp only [c1, decide_true, cond_true] at hr
          refine ⟨_, _, _, hr, fun o ho w0 ι ρ w hb hρ => ?_⟩
          have h1 := hρ x mx
          rw [hx] at h1
          have h1 : ρ x = _ := h1
          obtain ⟨news, S, hrel⟩ := hS w0 ι w _ hb (hρ y my)
          subst c1
          rw [app_exec ho (by rw [h1]; exact run_app_nil0 S hu hi hs (Nat.le_refl _))]
          exact ⟨ι, Ext.refl _, hb, rfl⟩
        · simp only [c1, decide_false, cond_false] at hr
          split at hr
          · rename_i n' hn
            refine ⟨_, _, _, hr, fun o ho w0 ι ρ w hb hρ => ?_⟩
            have h1 := hρ x mx
            rw [hx] at h1
            have h1 : ρ x = _ := h1
            obtain ⟨news, S, hrel⟩ := hS w0 ι w _ hb (hρ y my)
            obtain ⟨w', vals', r1, r2, r3, r4, r5, r6, r7, r8, r9⟩ := app_run0 (ty := o.type) S hu hi hz hs hzs (by omega) (by omega) hb c0
            rw [app_exec ho (by rw [h1]; exact r1)]
            have hle := Nat.mul_le_mul_right sz r8
            obtain ⟨h3, h4⟩ := new_cells hb hn vals' e (0, 0) 0 0 ys (fun h => absurd rfl h) (by rw [hyl, r7]; exact hrel) (by omega) (by rw [hyl, r7]; exact S.one) (fun off _ _ => by show ¬ (0 ≤ off ∧ off < 0); omega) r2 r3 r5
            exact ⟨_, h3, h4, ⟨w.heap.size, 0, vals'.size⟩, _, upI_same _ _ _, r8, r9, .inl ⟨by omega, by show 0 + 0 + _ ≤ vals'.size; omega, by simp⟩⟩
          · cases hr
      · rename_i o' sz' off len hx
        rw [beq_eq, beq_eq] at hr
        by_cases cs : sz = sz'
        case neg => simp only [cs, decide_false, cond_false] at hr; cases hr
        subst cs
        simp only [decide_true, cond_true] at hr
        by_cases c1 : m = 0
        · simp only [c1, decide_true, cond_true] at hr
          refine ⟨_, _, _, hr, fun o ho w0 ι ρ w hb hρ => ?_⟩
          have h1 := hρ x mx
          obtain ⟨news, S, hrel⟩ := hS w0 ι w _ hb (hρ y my)
          subst c1
          have h1' := h1
          rw [hx] at h1'
          obtain ⟨pl, c, _, h2, _, ⟨_, _, h3⟩ | ⟨h4, a, h3⟩⟩ := h1'
          · rw [app_exec ho (by rw [h3]; exact run_app_nil0 S hu hi hs h2)]
            exact ⟨ι, Ext.refl _, hb, by rw [← h3]; exact h1⟩
          · rw [app_exec ho (by rw [h3]; exact run_app_nil0 S hu hi hs (Nat.le_refl _))]
            exact ⟨ι, Ext.refl _, hb, by rw [← h3]; exact h1⟩
        · simp only [c1, decide_false, cond_false] at hr
          split at hr
          · rename_i fz xs hg
            rw [takeL_eq, dropL_eq, lenL_eq, beq_eq, ble_eq, ble_eq, appL_eq] at hr
            by_cases c2 : ((xs.drop off).take (len * sz)).length = len * sz
            case neg => simp only [c2, decide_false, cond_false] at hr; cases hr
            by_cases c3 : fz ≤ off + len * sz
            case neg => simp only [c2, c3, decide_true, decide_false, cond_true, cond_false] at hr; cases hr
            by_cases c4 : len + m ≤ 16777216
            case neg => simp only [c2, c3, c4, decide_true, decide_false, cond_true, cond_false] at hr; cases hr
            simp only [c2, c3, c4, decide_true, cond_true] at hr
            split at hr
            · rename_i n' hn
              rw [fN_eq] at hr
              refine ⟨_, _, _, hr, fun o ho w0 ι ρ w hb hρ => ?_⟩
              have h1 := hρ x mx
              rw [hx] at h1
              obtain ⟨news, S, hrel⟩ := hS w0 ι w _ hb (hρ y my)
              obtain ⟨pl, c, e1, _, _, hv⟩ := id h1
              obtain ⟨vals, e', fr, g1, g2, g3, g4, g5, _⟩ := hb.obj _ _ _ e1 hg
              have hin : len * sz = 0 ∨ pl.m + off + len * sz ≤ pl.size := by
                have hle : off + len * sz ≤ xs.length ∨ len * sz = 0 := by simp at c2; omega
                omega
              obtain ⟨v, w', pl', vals', e'', fr', r1, r2, r3, r4, r5, r6, r7, r8, r9, r10, r11, ⟨cc, d1, d2, d3, d4, d5⟩, hor⟩ := app_run (ty := o.type) S hu hi hz hs hzs (by omega) (by omega) h1 hb c4 e1 g1 g2 (fz := fz) c3 g5 hin
              rw [app_exec ho r1]
              have e4 : (len + m) * sz = len * sz + m * sz := Nat.add_mul _ _ _
              have hnl := S.hl
              have hx2 : OOk (upI ι n pl') w' pl' (.cs 0 (fz - off) ((xs.drop off).take (len * sz) ++ ys)) := by
                refine ⟨vals', e'', fr', r6, r7, by rw [List.length_append, c2, hyl]; omega, fun i y hy => ?_, r11, fun h => absurd rfl h⟩
                rw [List.getElem?_append] at hy
                split at hy
                · rename_i hlt
                  rw [c2] at hlt
                  rw [List.getElem?_take_of_lt hlt, List.getElem?_drop] at hy
                  obtain ⟨u', a1, a2, a3⟩ := g4 _ y hy
                  exact ⟨u', by rw [r9 i hlt, Nat.add_assoc]; exact a1, a2.mono (hb.ext _), a3⟩
                · rename_i hge
                  rw [c2] at hy hge
                  obtain ⟨u', a1, a2⟩ := hrel.get hy
                  have hlt : i - len * sz < m * sz := by have := (List.getElem?_eq_some_iff.1 hy).1; omega
                  have := r10 (i - len * sz) hlt
                  rw [show pl'.m + len * sz + (i - len * sz) = pl'.m + i by omega] at this
                  exact ⟨u', by rw [this]; exact a1, a2.mono (hb.ext _), S.one u' (List.mem_of_getElem? a1)⟩
              exact ⟨_, hb.ext pl', hb.move hn e1 ⟨_, hg, by intro e; cases e⟩ r2 r3 pl' _ r4 r5 hx2, pl', cc, upI_same _ _ _, d1, d2, .inl ⟨d3, d4, d5⟩⟩
            · cases hr
          · cases hr
      · cases hr
    · exact ob_none
noncomputable def evS2B (x : V) (h : H) (n : Id) (k : KV) : R :=
  match x with
  | .s l a => cond (Nat.ble l 16777216) (match nxt n with | some n' => k (.sl n 1 0 l) (hset (.bs 0 0 l a) n h) n' | none => none) none
  | _ => none
noncomputable def evB2S (x : V) (h : H) (kk : KP) : R :=
  match x with
  | .ns => kk (.s 0 0)
  | .sl o _ off m => (match hget o h with
    | some (.bs _ _ l x) => cond (Nat.ble (off + m) l) (fN (x / 256 ^ (l - (off + m)) % 256 ^ m) fun r => kk (.s m r)) none
    | _ => none)
  | _ => none
noncomputable def evConv (T : Tab) (s d : TypeId) (x : V) (h : H) (n : Id) (k : KV) : R :=
  match T.kd s, T.kd d with
  | .int _, .int _ => evConvI T s d x fun v => k v h n
  | .str, .slice _ => (match T.bb d with | some _ => evS2B x h n k | none => none)
  | .slice _, .str => (match T.bb s with | some _ => evB2S x h fun v => k v h n | none => none)
  | .str, .str => (match x with | .s l a => k (.s l a) h n | _ => none)
  | _, _ => none
def u8T (P : Program) (T : Tab) : Prop := ∀ t e, T.bb t = some e → P.underlying e = some (.int .u8)
include hT in
theorem conv_ok (h8 : u8T P T) (s d : TypeId) (x : Operand) : Ob P (.convert s d x) E h n k (evConv T s d (E x) h n k) := by
  have mx : x ∈ (Op.convert s d x).operands := by simp [Op.operands]
  unfold evConv
  split
  · exact (convI_ok hT s d x).ob
  · rename_i e hs hd
    split
    · rename_i e' hbb
      obtain ⟨hu, i, hi, hz, hsz, hby⟩ := byteT_spec (hT.bb _ _ hbb)
      have he8 := h8 _ _ hbb
      unfold evS2B
      split
      · rename_i l a hx
        rw [ble_eq]
        refine ob_cond fun c => ?_
        have c := of_decide_eq_true c
        split
        · rename_i n' hn
          refine ob_mk fun o ho w0 ι ρ w hb hρ => ?_
          have h1 := hρ x mx
          rw [hx] at h1
          obtain ⟨str, h1, hs2⟩ := h1
          have hrun : (execOp ρ o).run P w = .ok (.value (.slice (some ⟨w.heap.size, 0, none⟩) str.size (grownCap w str.size 0 e'))) (Lib.bytesWorld w e' str) := by
            simp [execOp, ho, h1, Lib.run_convert_string_bytes w s d e' str (hT.kstr _ hs) hu he8]
          rw [hrun]
          have hg : w.grownBy (Lib.bytesWorld w e' str) none := ⟨rfl, rfl, rfl, by rw [Lib.bytesWorld_size]; omega, fun k hk _ => Lib.bytesWorld_at_old w e' str k hk⟩
          have hat := Lib.bytesWorld_at_new w e' str
          have hge := grownCap_ge w str.size 0 e'
          have hcm : grownCap w str.size 0 e' ≤ maxLen := grownCap_le_maxLen w str.size 0 e' (by rw [hs2.size]; simp only [maxLen]; omega)
          have hvs : (Lib.bytesCells w e' str).size = grownCap w str.size 0 e' := by
            simp [Lib.bytesCells]; omega
          refine ⟨_, hb.ext ⟨w.heap.size, 0, (Lib.bytesCells w e' str).size⟩, hb.alloc hn hg (by exact Nat.le_succ _) _ _ rfl (by rw [Lib.bytesWorld_size]; simp) ⟨Lib.bytesCells w e' str, e', _, str.data.toList, hat, rfl, ?_, hs2.1, hs2.2, fun i b hib => ?_, fun off h1 _ => ?_, fun h => absurd rfl h⟩,
            ⟨w.heap.size, 0, (Lib.bytesCells w e' str).size⟩, _, upI_same _ _ _, by rw [← hs2.size]; exact hge, hcm, ?_⟩
          · show 0 + l ≤ (Lib.bytesCells w e' str).size
            rw [hvs, ← hs2.size]; omega
          · have hi : i < str.data.size := by simpa using (List.getElem?_eq_some_iff.1 hib).1
            show (Lib.bytesCells w e' str)[0 + i]? = _
            simp only [Lib.bytesCells, Nat.zero_add, Array.getElem?_append, Array.size_map, hi, if_true, Array.getElem?_map]
            simp only [Array.getElem?_toList] at hib
            simp [hib]
          · simp only; omega
          · by_cases h0 : 0 < grownCap w str.size 0 e'
            · exact .inl ⟨h0, by show 0 + 0 + _ * 1 ≤ (Lib.bytesCells w e' str).size; omega, by rw [← hs2.size]⟩
            · exact .inr ⟨by omega, ⟨w.heap.size, 0, none⟩, by rw [show grownCap w str.size 0 e' = 0 by omega, show str.size = 0 by omega]⟩
        · exact ob_none
      · exact ob_none
    · exact ob_none
  · rename_i e hs hd
    split
    · rename_i e' hbb
      obtain ⟨hu, i, hi, hz, hsz, hby⟩ := byteT_spec (hT.bb _ _ hbb)
      have he8 := h8 _ _ hbb
      have mk : ∀ (bs : List UInt8), (bs.map fun b => (b.toNat : Int)).map (fun n => UInt8.ofNat n.toNat) = bs := fun bs => by
        rw [List.map_map]; conv => rhs; rw [← List.map_id bs]
        apply List.map_congr_left; intro b _; simp
      unfold evB2S
      split
      · rename_i hx
        refine ob_mk (xop_pure fun o ho w0 ι ρ w hb hρ => ?_)
        have h1 := hρ x mx
        rw [hx] at h1
        have h1 : ρ x = _ := h1
        have hrun : (Conv.bytesToString (.slice none 0 0)).run P w = .ok (.string ⟨#[]⟩) w := K.run_bytesToString (P := P) w none 0 [] (.inl rfl)
        exact ⟨.string ⟨#[]⟩, by simp [execOp, ho, convert, run_underlying hu, run_underlying (hT.kstr _ hd), run_underlying he8, h1, hrun], _, rfl, rfl, rfl⟩
      · rename_i o' sz off m hx
        split
        · rename_i fz l b hg
          rw [ble_eq, fN_eq]
          refine ob_cond fun c => ?_
          have c := of_decide_eq_true c
          refine ob_mk (xop_pure fun o ho w0 ι ρ w hb hρ => ?_)
          have h1 := hρ x mx
          rw [hx] at h1
          obtain ⟨pl, cc, e1, h2, h3, hv⟩ := h1
          obtain ⟨vals, ee, fr, bs, g1, g2, g3, g4, g5, g6, g7⟩ := hb.obj _ _ _ e1 hg
          have hbl : ((bs.take (off + m)).drop off).length = m := by simp; omega
          have hsv : ∃ A c', ρ x = .slice A m c' ∧ (m = 0 ∨ A = some ⟨pl.b, pl.m + off, none⟩) := by
            rcases hv with ⟨_, _, h⟩ | ⟨h0, a, h⟩
            · exact ⟨_, _, h, .inr rfl⟩
            · have : m = 0 := by omega
              subst this; exact ⟨_, _, h, .inl rfl⟩
          obtain ⟨A, c', hxv, hA⟩ := hsv
          have hml : m = (((bs.take (off + m)).drop off).map fun b => (b.toNat : Int)).length := by rw [List.length_map, hbl]
          have hrun := K.run_bytesToString (P := P) w A c' (((bs.take (off + m)).drop off).map fun b => (b.toNat : Int)) (by
            rcases hA with h | h
            · left; exact List.eq_nil_of_length_eq_zero (by omega)
            · right
              refine ⟨_, h, fun j v hj => ?_⟩
              simp only [List.getElem?_map, Option.map_eq_some_iff] at hj
              obtain ⟨n1, ⟨b1, hb1, rfl⟩, rfl⟩ := hj
              rw [List.getElem?_drop, List.getElem?_take] at hb1
              split at hb1
              · rw [K.add_lit, cell_of_row w _ _ vals ee fr g1, Nat.add_assoc]; exact g6 _ _ hb1
              · cases hb1)
          rw [← hml, mk] at hrun
          refine ⟨_, by simp [execOp, ho, convert, run_underlying hu, run_underlying (hT.kstr _ hd), run_underlying he8, hxv, hrun]; rfl, _, rfl, by simpa using hbl, ?_⟩
          have e9 : (bs.take (off + m)).length - off = m := by simp; omega
          show valB ((bs.take (off + m)).drop off) = _
          rw [valB_drop _ _ (by simp; omega), valB_take _ _ (by omega), g4, g5, e9]
        · exact ob_none
      · exact ob_none
    · exact ob_none
  · rename_i hs hd
    split
    · rename_i l a hx
      refine ob_mk (xop_pure fun o ho w0 ι ρ w hb hρ => ?_)
      have h1 := hρ x mx
      rw [hx] at h1
      obtain ⟨str, h1, hs2⟩ := h1
      exact ⟨.string str, by simp [execOp, ho, convert, run_underlying (hT.kstr _ hs), run_underlying (hT.kstr _ hd), h1], str, rfl, hs2⟩
    · exact ob_none
  · exact ob_none
end
end Go.Proofs.Nw.X
end
section
/- K21: regions whose order is open and that end with operations that come after all others: these may turn own things. -/
open Go Go.RowKit
set_option linter.unusedVariables false
set_option linter.unusedSimpArgs false
namespace Go.Proofs.Nw.K
section
variable {P : Program} {N : Fm} {md : Region.Mode}
def Closed (md : Region.Mode) (l : List Oper) (listed : Array Bool) : Prop :=
  ∀ (i : Nat) (o : Oper), l[i]? = some o → listed.getD i false = true → ∀ e ∈ o.after, Region.binds md e = true → listed.getD e.on false = true
theorem closed_set {l : List Oper} {listed : Array Bool} (hc : Closed md l listed) {i : Nat} (hi : i ∈ Region.ready md l.toArray listed) : Closed md l (listed.setIfInBounds i true) := by
  obtain ⟨h0, o, ho, hall⟩ := mem_ready.1 hi
  intro j oj hoj hj e he hb
  refine getD_set_true ?_
  by_cases hij : i = j
  · subst hij
    have : o = oj := by
      have h1 : l[i]? = some o := by simpa using ho
      rw [h1] at hoj; exact Option.some.inj hoj
    subst this
    exact hall e he hb
  · refine hc j oj hoj ?_ e he hb
    simpa [Array.getElem?_setIfInBounds_ne hij] using hj
theorem list_getD_unlisted {listed : Array Bool} {i : Nat} (h : listed.getD i true = false) : listed.getD i false = false := by
  simp only [Array.getD_eq_getD_getElem?] at *
  cases hx : listed[i]? with
  | none => rfl
  | some b => simpa [hx] using h
theorem exists_least {p : Nat → Prop} [DecidablePred p] : ∀ (m : Nat), (∃ i, i < m ∧ p i) → ∃ i, i < m ∧ p i ∧ ∀ j, j < i → ¬ p j
  | 0, ⟨i, h, _⟩ => absurd h (Nat.not_lt_zero _)
  | m + 1, ⟨i, h, hp⟩ => by
    by_cases he : ∃ i, i < m ∧ p i
    · obtain ⟨j, h1, h2⟩ := exists_least m he
      exact ⟨j, by omega, h2⟩
    · refine ⟨i, h, hp, fun j hj hpj => he ⟨j, by omega, hpj⟩⟩
end
section
variable {P : Program} {T : Tab} {N : Fm} (hT : TabOk P T)
include hT
end
end Go.Proofs.Nw.K
end
section
/- K28: regions whose order is open: the first ones turn no own thing, and run in any order; some of them are moves, which may come at any time, even behind the last ones; the last ones come one behind the other, each behind all first ones but those moves. -/
end
section
/- V1: what is to be shown of code, without what goes without saying: 'vcc'. -/
open Go Go.RowKit
set_option linter.unusedVariables false
set_option linter.unusedSimpArgs false
namespace Go.Proofs.Nw.K
section
variable (P : Program) (T : Tab) (N : Fm)
inductive CallD (P : Program) (f : FuncId) (ds : List DV) (st : List AO) (K : KO) : Prop
  | mk (ds' res : List DV) (h : Impl P f ds' res) (hl : AsLe ds ds') (k : K (resAV res) st) : CallD P f ds st K
  | own (e : TypeId) (sz : Nat) (xs : List (List D)) (h : Gives P f ds e sz xs) (k : K (.h st.length 0 0 xs.length) (st ++ [.row 0 e sz xs])) : CallD P f ds st K
theorem CallD.of {P f ds res st K} (h : Impl P f ds res) (k : K (resAV res) st) : CallD P f ds st K := .mk ds res h (AsLe.refl _) k
def setB (env : Env) (c : Operand) (b : Bool) : Env := match c with | .tmp d => upd env d (.bool b) | _ => env
end
end Go.Proofs.Nw.K
end
section
/- K19: what a row hands in, read as data. -/
open Go Go.RowKit
set_option linter.unusedVariables false
set_option linter.unusedSimpArgs false
namespace Go.Proofs.Nw.K
def sigOf (w : World) : Sig where
  cell b o := (w.cell? ⟨b, o, none⟩).filter (·.oneCell')
  obj r := match w.heap[r]? with | some (.map es c) => some (.map es c) | _ => none
mutual
def bulk {H : Type} : DataW H → Nat
  | .lit (.string bytes) => bytes.length + 1
  | .lit _ => 1
  | .nil => 1
  | .ptr d => bulk d + 1
  | .slice elems spare => bulkAll elems + bulkAll spare + 1
  | .agg parts => bulkAll parts + 1
  | .iface _ d => bulk d + 1
  | .map entries => bulkEntries entries + 1
  | .held _ => 1
def bulkAll {H : Type} : List (DataW H) → Nat
  | [] => 0
  | d :: r => bulk d + bulkAll r
def bulkEntries {H : Type} : List (Lit × DataW H) → Nat
  | [] => 0
  | x :: r => bulkEntry x + bulkEntries r
def bulkEntry {H : Type} : Lit × DataW H → Nat
  | (.string bytes, d) => bytes.length + bulk d + 1
  | (_, d) => bulk d + 1
end
structure Opens (P : Program) (t : TypeId) {α : Type} (enc : α → List D) (wt : α → Nat) (ok : α → Prop) : Prop where
  of : ∀ {H : Type} {e : TypeId × Value → H} {w : World} {base : Nat} {sp : Nat → Bool} {fuel : Nat} {cs : List Value} {x : DataW H × List MemPlace},
    DataW.trod e P w base sp true fuel t cs = some x → ∃ a, RepL (sigOf w) cs (enc a) ∧ (∀ c ∈ cs, c.oneCell' = true) ∧ wt a ≤ bulk x.1 ∧ ok a
variable {P : Program} {t : TypeId}
universe u
theorem Opens.map {α β : Type} {enc : α → List D} {wt : α → Nat} {ok : α → Prop} {enc' : β → List D} {wt' : β → Nat} {ok' : β → Prop} (h : Opens P t enc wt ok) (f : α → β) (h1 : ∀ a, enc' (f a) = enc a) (h2 : ∀ a, wt' (f a) ≤ wt a) (h3 : ∀ a, ok a → ok' (f a)) :
    Opens P t enc' wt' ok' := by
  refine ⟨?_⟩
  intro H e w base sp fuel cs x hx
  obtain ⟨a, a1, a2, a3, a4⟩ := h.of hx
  exact ⟨f a, by rw [h1]; exact a1, a2, Nat.le_trans (h2 a) a3, h3 a a4⟩
theorem RepVs.nil {σ : Sig} : RepVs σ [] [] := ⟨rfl, fun i v d h => by simp at h⟩
end Go.Proofs.Nw.K
end
section
/- K22: a cell of one's own box, seen otherwise. -/
open Go Go.RowKit
set_option linter.unusedVariables false
set_option linter.unusedSimpArgs false
namespace Go.Proofs.Nw.K
theorem Sub.cell {N : Fm} {env : Env} {st st1 : List AO} {s i : Nat} {bT : TypeId} {cells : List AV} {a a' : AV} (hst : st[s]? = some (.box bT cells)) (hi : cells[i]? = some a) (hst1 : st1[s]? = some (.box bT cells))
    (h : ∀ w0 σ0 σ gh w u, Base w0 σ0 σ gh st w → RepA σ gh st u a → ∃ σ' gh', Fut w0 σ0 σ gh st σ' gh' st1 w ∧ RepA σ' gh' st1 u a' ∧ gh'[s]? = gh[s]?) :
    Sub N env st env (st1.set s (AO.box bT (cells.set i a'))) := by
  intro w0 σ0 I x w ⟨hs, hd, hI, σ, gh, hb, hk, he⟩
  have hlt : s < gh.length := by rw [hb.len]; exact (List.getElem?_eq_some_iff.1 hst).1
  obtain ⟨g, hg⟩ : ∃ g, gh[s]? = some g := ⟨gh[s], List.getElem?_eq_getElem hlt⟩
  obtain ⟨b, vals, e1, e2, e3, e4, e5, e6, e7⟩ := hb.obj s _ _ hst hg
  have hil : i < vals.size := by rw [e4]; exact (List.getElem?_eq_some_iff.1 hi).1
  have hv : vals[i]? = some vals[i] := Array.getElem?_eq_getElem hil
  obtain ⟨σ', gh', hf, hu, hgg⟩ := h w0 σ0 σ gh w _ hb (e5 i _ _ hv hi)
  have hg' : gh'[s]? = some g := by rw [hgg, hg]
  obtain ⟨b', vals', f1, f2, f3, f4, f5, f6, f7⟩ := hf.base.obj s _ _ hst1 hg'
  have hbb : b' = b := by rw [e1] at f1; simpa using f1.symm
  subst hbb
  have hvv : vals' = vals := by rw [e3] at f3; simpa using f3.symm
  subst hvv
  have keep : ∀ v a, RepA σ' gh' st1 v a → RepA σ' gh' (st1.set s (AO.box bT (cells.set i a'))) v a := fun v a h' => h'.set hst1 _ (fun k' e' sz' xs' heq => by cases heq)
  have := hf.base.turn (w' := w) hst1 hg' (by simp) ⟨rfl, rfl, rfl, Nat.le_refl _, fun _ _ _ => rfl⟩ g (.box bT (cells.set i a')) (fun b hb' => .inl hb')
    ⟨b', vals', f1, f2, f3, by simpa using f4, fun j v c hj hc => by
      rw [set_self hg']
      by_cases hij : i = j
      · subst hij
        have hic : i < cells.length := (List.getElem?_eq_some_iff.1 hi).1
        have : c = a' := by simpa [hic] using hc.symm
        subst this
        rw [hv] at hj
        cases hj
        exact keep _ _ hu
      · rw [List.getElem?_set, if_neg hij] at hc
        exact keep _ _ (f5 j v c hj hc), f6, f7⟩ (by rw [set_self hg']; exact keep)
  rw [set_self hg'] at this
  exact ⟨hs, hd, hI, σ', gh', this.base, fun v a ha => this.keep _ _ (hf.keep _ _ (hk v a ha)), fun t => this.keep _ _ (hf.keep _ _ (he t))⟩
end Go.Proofs.Nw.K
end
section
/- V2: functions that may have no answer; cuts. -/
open Go Go.RowKit
set_option linter.unusedVariables false
set_option linter.unusedSimpArgs false
namespace Go.Proofs.Nw.K
universe u
theorem Sub.le {N : Fm} {env : Env} {st : List AO} (t : Nat) {d d' : DV} (h : env t = .v d) (hle : DLe d d') : Sub N env st (upd env t (.v d')) st :=
  Sub.slot t _ fun w0 σ0 σ gh w u hb hu => by
    rw [h] at hu
    exact ⟨σ, gh, .refl hb, hle σ u hu⟩
end Go.Proofs.Nw.K
end
section
/- K24: regions whose order is open, and in which operations turn own things one behind the other: what turns nothing does the same at each stage. -/
open Go Go.RowKit
set_option linter.unusedVariables false
set_option linter.unusedSimpArgs false
namespace Go.Proofs.Nw.K
section
variable {P : Program} {N : Fm} {ops : Array Oper} {md : Region.Mode} {tf : List Bool} {Ss : List (List AO)}
def Yt (P : Program) (N : Fm) (ops : Array Oper) (tf : List Bool) (Ss : List (List AO)) (i : Nat) (o : Oper) (v : AV) (env : Env) (j j' : Nat) : Prop :=
  match tf.getD i false with
  | true => j' = j + 1 ∧ ∃ s s', Ss[j]? = some s ∧ Ss[j + 1]? = some s' ∧ (∀ d, o.dst = some d → d < N.n) ∧ o.guard = none ∧ OpS P o.op (evalE env) s v s'
  | false => j' = j ∧ ∀ s ∈ Ss, EYields P N ops s o v env
theorem evalE_other {env : Env} {o : Oper} {dst : Option Tmp} {u : AV} (h : ∀ d, dst = some d → d ∉ o.looksAt ops) : ∀ x ∈ o.op.operands, evalE (updO env dst u) x = evalE env x := fun x hx => by
  cases x with
  | tmp t =>
    refine updO_other fun d hd e => h d hd ?_
    subst e
    exact List.mem_append_left _ (List.mem_filterMap.2 ⟨.tmp d, by simpa using hx, rfl⟩)
  | _ => rfl
theorem Yt.keep {i : Nat} {o : Oper} {v : AV} {env : Env} {j j' : Nat} (hy : Yt P N ops tf Ss i o v env j j') {dst : Option Tmp} {u : AV} (h : ∀ d, dst = some d → d ∉ o.looksAt ops) : Yt P N ops tf Ss i o v (updO env dst u) j j' := by
  unfold Yt at *
  split at hy
  · obtain ⟨h1, s, s', h2, h3, h4, h5, h6⟩ := hy
    exact ⟨h1, s, s', h2, h3, h4, h5, h6.congr (evalE_other h)⟩
  · exact ⟨hy.1, fun s hs => (hy.2 s hs).keep h⟩
end
section
variable (P : Program) (T : Tab) (N : Fm)
end
section
variable {P : Program} {T : Tab} {N : Fm} (hT : TabOk P T)
include hT
end
end Go.Proofs.Nw.K
end
section
/- K25: regions whose order is open: every order, one by one. -/
end
section
/- V3: open regions, without what goes without saying. -/
end
section
/- K30: lists with known room behind them. -/
end
section
/- K31: append to a handle on the first ones of a row of one's own: in place. -/
end
section
/- K32: maps of one's own: keys of other kinds, any values. -/
open Go Go.RowKit Go.MapKept
set_option linter.unusedVariables false
set_option linter.unusedSimpArgs false
namespace Go.Proofs.Nw.K
theorem eqStrs_iff : ∀ (a b : List ByteArray), a.length = b.length → eqStrs a b = decide (a = b)
  | [], [], _ => by simp [eqStrs]
  | x :: a, y :: b, h => by
    have ih := eqStrs_iff a b (by simpa using h)
    unfold eqStrs
    rw [ih]
    by_cases e : x = y
    · subst e; simp
    · have : (x.toList == y.toList) = false := by
        rw [beq_eq_false_iff_ne]
        intro e2
        exact e (by
          rw [ByteArray.toList_eq, ByteArray.toList_eq] at e2
          cases x; cases y; simp at e2; subst e2; rfl)
      rw [this]; simp [e]
  | [], _ :: _, h => by simp at h
  | _ :: _, [], h => by simp at h
section
universe u
variable {α : Type} {β : Type u} [DecidableEq α]
def fndM (k : α) : List (α × β) → Option Nat
  | [] => none
  | (a, _) :: r => if k = a then some 0 else (fndM k r).map (· + 1)
end
structure KeyR (P : Program) (kt : TypeId) {α : Type} [DecidableEq α] (kv : α → Value) : Prop where
  check : ∀ w em a, (Instr.checkKey em 10000 kt (kv a)).run P w = .ok () w
  find : ∀ w a (m : List (α × AV)) (es : List MapEntry) (n : Nat), es.length = m.length → (∀ (i : Nat) (me : MapEntry) p, es[i]? = some me → m[i]? = some p → me.key = kv p.1) →
    n = 0 → (fndM a m = none ∧ (Instr.findKey kt (kv a) es).run P w = .ok none w) ∨ ∃ i me, fndM a m = some i ∧ es[i]? = some me ∧ (Instr.findKey kt (kv a) es).run P w = .ok (some (i, me.val)) w
  stays : ∀ w a, (Instr.keyThatStays (kv a) (kv a)).run P w = .ok (kv a) w
theorem asking {P : Program} {kt : TypeId} {α : Type} [DecidableEq α] {kv : α → Value} (heq : ∀ w a b, (Op.equal kt (kv a) (kv b)).run P w = .ok (decide (a = b)) w) (w : World) (a : α) :
    ∀ (m : List (α × AV)) (es : List MapEntry) (n : Nat), es.length = m.length → (∀ (i : Nat) (me : MapEntry) p, es[i]? = some me → m[i]? = some p → me.key = kv p.1) →
      (fndM a m = none ∧ (Instr.findAsking kt (kv a) es n).run P w = .ok none w) ∨ ∃ i me, fndM a m = some i ∧ es[i]? = some me ∧ (Instr.findAsking kt (kv a) es n).run P w = .ok (some (n + i, me.val)) w
  | [], [], n, _, _ => .inl ⟨rfl, by simp [Instr.findAsking]⟩
  | (b, d) :: r, e :: es, n, hl, hk => by
    have h0 : e.key = kv b := hk 0 e (b, d) rfl rfl
    have h1 := heq w a b
    by_cases he : a = b
    · refine .inr ⟨0, e, by simp [fndM, he], rfl, ?_⟩
      rw [decide_eq_true he] at h1
      simp [Instr.findAsking, h0, h1]
    · rw [decide_eq_false he] at h1
      rcases asking heq w a r es (n + 1) (by simpa using hl) (fun i me p h1 h2 => hk (i + 1) me p (by simpa using h1) (by simpa using h2)) with ⟨h2, h3⟩ | ⟨i, me, h2, h3, h4⟩
      · exact .inl ⟨by simp [fndM, he, h2], by simp [Instr.findAsking, h0, h1, h3]⟩
      · exact .inr ⟨i + 1, me, by simp [fndM, he, h2], by simpa using h3, by simp [Instr.findAsking, h0, h1, h4]; omega⟩
  | [], _ :: _, _, hl, _ => by simp at hl
  | _ :: _, [], _, hl, _ => by simp at hl
theorem strFields_each {P : Program} : ∀ (fs : List Field) (n : Nat), strFields P n fs = true → ∀ f ∈ fs, f.name ≠ "_" ∧ P.underlying f.type = some .string ∧ f.offset < n + fs.length
  | [], _, _, f, hf => by cases hf
  | g :: fs, n, h, f, hf => by
    unfold strFields at h
    simp only [Bool.and_eq_true, bne_iff_ne, beq_iff_eq] at h
    obtain ⟨⟨⟨e1, e2⟩, e3⟩, e4⟩ := h
    rcases List.mem_cons.1 hf with rfl | hf
    · refine ⟨e1, ?_, by simp only [List.length_cons]; omega⟩
      split at e3
      · assumption
      · cases e3
    · obtain ⟨h1, h2, h3⟩ := strFields_each fs (n + 1) e4 f hf
      exact ⟨h1, h2, by simp only [List.length_cons]; omega⟩
theorem keyR_strs {P : Program} {kt : TypeId} {n : Nat} (ht : strStruct P kt = some n) {α : Type} [DecidableEq α] (ks : α → List ByteArray) (hl : ∀ a, (ks a).length = n) (inj : ∀ a b, ks a = ks b → a = b) :
    KeyR P kt (fun a => .agg ((ks a).map Value.string).toArray) := by
  unfold strStruct at ht
  split at ht <;> try cases ht
  rename_i fs hu
  split at ht <;> try cases ht
  rename_i hc
  simp only [Bool.and_eq_true, Bool.not_eq_true'] at hc
  obtain ⟨⟨c1, c2⟩, c3⟩ := hc
  have hS : P.underlying kt = some (.struct (P.fieldsOf kt)) := by simp [Program.fieldsOf, hu]
  have hfs : P.fieldsOf kt = fs := by simp [Program.fieldsOf, hu]
  have heq : ∀ w a b, (Op.equal kt (.agg ((ks a).map Value.string).toArray) (.agg ((ks b).map Value.string).toArray)).run P w = .ok (decide (a = b)) w := fun w a b => by
    have hr := eqFields_run (P := P) (w := w) 9998 fs.toList 0 [] [] (ks a) (ks b) c1 rfl rfl (by simpa using hl a) (by simpa using hl b)
    simp only [List.nil_append] at hr
    have e1 : eqStrs (ks a) (ks b) = decide (a = b) := by
      rw [eqStrs_iff _ _ (by rw [hl, hl])]
      exact decide_eq_decide.2 ⟨inj a b, fun e => by rw [e]⟩
    rw [e1] at hr
    unfold Op.equal Op.maxDepth
    rw [show (10000 : Nat) = 9999 + 1 from rfl, run_equalIn_agg w 9999 kt _ _ hS c2, hfs]; exact hr
  refine ⟨fun w em a => ?_, fun w a m es n h1 h2 h3 => ?_, fun w a => ?_⟩
  · have each := strFields_each fs.toList 0 c1
    have hcs : ∀ j, j < 0 + fs.toList.length → ∃ z, (((ks a).map Value.string).toArray)[j]? = some (.string z) := fun j hj => by
      have : j < (ks a).length := by rw [hl a]; simpa using hj
      exact ⟨(ks a)[j], by simp [this]⟩
    rw [show (10000 : Nat) = 9999 + 1 from rfl, Instr.checkKey]
    simp only [Sem.run_bind, run_underlying hu, Result.andThen_ok]
    rw [← Array.forIn_toList]
    have each2 : ∀ f ∈ fs.toList, f.name ≠ "_" ∧ P.underlying f.type = some .string ∧ ∃ z, (((ks a).map Value.string).toArray)[f.offset]? = some (.string z) := fun f hf => by
      obtain ⟨h1, h2, h3⟩ := each f hf
      exact ⟨h1, h2, hcs _ h3⟩
    clear each hcs
    generalize ((ks a).map Value.string).toArray = cs at each2 ⊢
    generalize fs.toList = L at each2
    induction L with
    | nil => simp
    | cons f L ih =>
      obtain ⟨hn, hs, z, hz⟩ := each2 f (by simp)
      have p1 : (part f.type cs f.offset).run P w = .ok (.string z) w := by
        simp only [part, isAgg, Sem.run_bind, run_underlying hs, Result.andThen_ok, Sem.run_pure, Bool.false_eq_true, if_false, hz]
      have p2 : (Instr.checkKey em 9999 f.type (.string z)).run P w = .ok () w := Go.MapKept.run_checkKey (d := .string) (k := .string z) hs trivial em 9998
      simp only [List.forIn_cons, Sem.run_bind, hn, ne_eq, not_false_eq_true, if_true, Result.andThen_ok, p1, p2, Sem.run_pure]
      exact ih (fun y hy => each2 y (by simp [hy]))
  · subst h3
    have hw : (match P.underlying kt with | some (.array _ _) | some (.struct _) => true | _ => false) = true := by rw [hu]
    rw [run_findKey_eq w hw]
    simpa using asking (kv := fun a => .agg ((ks a).map Value.string).toArray) heq w a m es 0 h1 h2
  · have hs : Instr.sameBits 10000 (.agg ((ks a).map Value.string).toArray) (.agg ((ks a).map Value.string).toArray) = true := by
      show Instr.sameBits (9999 + 1) _ _ = true
      simp only [Instr.sameBits, beq_self_eq_true, Bool.true_and, List.all_eq_true]
      intro p hp
      obtain ⟨i, hi, e⟩ := List.getElem_of_mem hp
      rw [List.getElem_zip] at e
      rw [← e]
      simp only [List.getElem_map, Instr.sameBits]
      exact (bytes_beq _ _).2 rfl
    simp [Instr.keyThatStays, hs]
section
variable {P : Program} {E : Operand → AV} {st : List AO} {α : Type} [DecidableEq α] {kv : α → Value} {kt e : TypeId} {zv : Value} {za : AV}
end
end Go.Proofs.Nw.K
end
section
/- X10: maps. -/
open Go Go.RowKit Go.MapKept
set_option linter.unusedVariables false
set_option linter.unusedSimpArgs false
namespace Go.Proofs.Nw.X
open Go.Proofs.Nw.K
noncomputable def allS (l : List V) : Bool := List.rec true (fun x _ ih => match x with | .s _ _ => ih | _ => false) l
noncomputable def keyOk (kind : Nat) (key : V) : Bool :=
  match kind, key with
  | 0, .s _ _ => true
  | 1, .i _ _ => true
  | n + 2, .ag cs => cond (Nat.beq (lenL cs) n) (allS cs) false
  | _, _ => false
noncomputable def keyEq (kind : Nat) (key k : V) : Option Bool :=
  match kind, key, k with
  | 0, .s n a, .s m b => some (seq n a m b)
  | 1, .i k a, .i k' b => cond (Nat.beq (ikN k) (ikN k')) (some (ieq a b)) none
  | n + 2, .ag cs, .ag ds => cond (Nat.beq (lenL cs) n) (eqAg cs ds) none
  | _, _, _ => none
noncomputable def findE (kind : Nat) (key : V) (m : List (V × V)) : Option (Option Nat) :=
  List.rec (some none) (fun p _ ih => match keyEq kind key p.1 with
    | some true => some (some 0)
    | some false => (match ih with | some (some i) => some (some (i + 1)) | r => r)
    | none => none) m
theorem findE_cons (kind : Nat) (key : V) (p : V × V) (m : List (V × V)) : findE kind key (p :: m) = (match keyEq kind key p.1 with
    | some true => some (some 0)
    | some false => (match findE kind key m with | some (some i) => some (some (i + 1)) | r => r)
    | none => none) := rfl
def KindOk (P : Program) (kt : TypeId) : Nat → Prop
  | 0 => P.underlying kt = some .string
  | 1 => ∃ k, P.underlying kt = some (.int k)
  | n + 2 => strStruct P kt = some n
theorem allS_cons (c : V) (cs : List V) : allS (c :: cs) = (match c with | .s _ _ => allS cs | _ => false) := rfl
theorem allS_spec {ι : Io} : ∀ {cs : List V} {us : List Value}, allS cs = true → RVs ι cs us → ∃ a : List ByteArray, us = a.map Value.string ∧ a.length = cs.length
  | [], us, h, hr => ⟨[], hr, rfl⟩
  | c :: cs, us, h, hr => by
    have h' := h
    rw [allS_cons] at h'
    split at h'
    · obtain ⟨u, r, rfl, ⟨s, rfl, _⟩, h3⟩ := hr
      obtain ⟨a, rfl, e⟩ := allS_spec h' h3
      exact ⟨s :: a, rfl, by simp [e]⟩
    · cases h'
theorem keyR_sub {P : Program} {kt : TypeId} {n : Nat} (ht : strStruct P kt = some n) : KeyR P kt (fun a : {l : List ByteArray // l.length = n} => .agg (a.1.map Value.string).toArray) :=
  keyR_strs ht (fun a => a.1) (fun a => a.2) (fun a b h => Subtype.ext h)
theorem key_check {P : Program} {kt : TypeId} {kind : Nat} (hk : KindOk P kt kind) {ι : Io} {key : V} {u : Value} (ho : keyOk kind key = true) (hr : RV ι key u) (w : World) (em : Bool) :
    (Instr.checkKey em 10000 kt u).run P w = .ok () w ∧ (Instr.keyThatStays u u).run P w = .ok u w := by
  unfold keyOk at ho
  split at ho
  · obtain ⟨s, rfl, _⟩ := hr
    exact ⟨run_checkKey (d := .string) (k := .string s) hk trivial em 9999, run_keyThatStays (d := .string) trivial⟩
  · rename_i k a
    have hr : u = _ := hr
    subst hr
    obtain ⟨k0, hk⟩ := hk
    exact ⟨by
      rw [show (10000 : Nat) = 9999 + 1 from rfl]
      unfold Instr.checkKey
      simp [run_underlying hk], by simp [Instr.keyThatStays, Instr.sameBits]⟩
  · rename_i n cs
    obtain ⟨us, rfl, hr⟩ := hr
    rw [beq_eq] at ho
    by_cases c : lenL cs = n
    · simp only [c, decide_true, cond_true] at ho
      obtain ⟨a, rfl, hl⟩ := allS_spec ho hr
      have K := keyR_sub (P := P) (kt := kt) hk
      have hl2 : a.length = n := by rw [hl, ← lenL_eq]; exact c
      exact ⟨K.check w em ⟨a, hl2⟩, K.stays w ⟨a, hl2⟩⟩
    · simp only [c, decide_false, cond_false] at ho; cases ho
  · cases ho
theorem eqStrs_true {a b : List ByteArray} (hl : a.length = b.length) (h : eqStrs a b = true) : a = b := by rw [eqStrs_iff a b hl] at h; exact of_decide_eq_true h
theorem key_eq {P : Program} {kt : TypeId} {n : Nat} (ht : strStruct P kt = some n) {ι : Io} {cs ds : List V} {r : Bool} (h : cond (Nat.beq (lenL cs) n) (eqAg cs ds) none = some r) {u u' : Value} (h1 : RV ι (.ag cs) u) (h2 : RV ι (.ag ds) u') (w : World) :
    (Op.equal kt u u').run P w = .ok r w ∧ (r = true → u' = u) := by
  rw [beq_eq] at h
  by_cases c : lenL cs = n
  case neg => simp only [c, decide_false, cond_false] at h; cases h
  simp only [c, decide_true, cond_true] at h
  obtain ⟨us, rfl, r1⟩ := h1
  obtain ⟨vs, rfl, r2⟩ := h2
  obtain ⟨a, b, rfl, rfl, e, l1, l2⟩ := eqAg_spec h r1 r2
  rw [lenL_eq] at c
  refine ⟨?_, fun hr => by rw [eqStrs_true (by omega) (e.trans hr)]⟩
  unfold strStruct at ht
  split at ht <;> try cases ht
  rename_i fs hu
  split at ht <;> try cases ht
  rename_i hc
  simp only [Bool.and_eq_true, Bool.not_eq_true'] at hc
  obtain ⟨⟨c1, c2⟩, c3⟩ := hc
  have hS : P.underlying kt = some (.struct (P.fieldsOf kt)) := by simp [Program.fieldsOf, hu]
  have hfs : P.fieldsOf kt = fs := by simp [Program.fieldsOf, hu]
  have hr := eqFields_run (P := P) (w := w) 9998 fs.toList 0 [] [] a b c1 rfl rfl (by simp; omega) (by simp; omega)
  simp only [List.nil_append, e] at hr
  unfold Op.equal Op.maxDepth
  rw [show (10000 : Nat) = 9999 + 1 from rfl, run_equalIn_agg w 9999 kt _ _ hS c2, hfs]; exact hr
def Found (es : List MapEntry) (u : Value) (off : Nat) : Option Nat → Option (Nat × Value) → Prop
  | none, r => r = none
  | some i, r => ∃ me, es[i]? = some me ∧ me.key = u ∧ r = some (off + i, me.val)
theorem find_asking {P : Program} {kt : TypeId} {n : Nat} (ht : strStruct P kt = some n) {ι : Io} {key : V} {u : Value} (hr : RV ι key u) (w : World) : ∀ {m : List (V × V)} {es : List MapEntry} {res : Option Nat} (off : Nat), findE (n + 2) key m = some res → es.length = m.length →
    (∀ (i : Nat) k v, m[i]? = some (k, v) → ∃ me : MapEntry, es[i]? = some me ∧ RV ι k me.key) → ∃ r, (Instr.findAsking kt u es off).run P w = .ok r w ∧ Found es u off res r
  | [], [], res, off, h, hl, hm => by cases h; exact ⟨none, by simp [Instr.findAsking], rfl⟩
  | [], _ :: _, res, off, h, hl, hm => by simp at hl
  | _ :: _, [], res, off, h, hl, hm => by simp at hl
  | (k, v) :: m, e :: es, res, off, h, hl, hm => by
    obtain ⟨me, h1, h2⟩ := hm 0 k v rfl
    simp at h1
    subst h1
    have hm' : ∀ (i : Nat) k v, m[i]? = some (k, v) → ∃ me : MapEntry, es[i]? = some me ∧ RV ι k me.key := fun i k v h => hm (i + 1) k v (by simpa using h)
    have ke : ∀ r, keyEq (n + 2) key k = some r → (Op.equal kt u e.key).run P w = .ok r w ∧ (r = true → e.key = u) := fun r hk => by
      unfold keyEq at hk
      split at hk
      · rename_i heq; omega
      · rename_i heq; omega
      · rename_i n' cs ds heq
        have : n' = n := by omega
        subst this
        exact key_eq ht hk hr h2 w
      · cases hk
    rw [findE_cons] at h
    split at h
    · rename_i he
      cases h
      obtain ⟨r1, r2⟩ := ke _ he
      exact ⟨some (off, e.val), by simp [Instr.findAsking, r1], e, rfl, r2 rfl, rfl⟩
    · rename_i he
      obtain ⟨r1, _⟩ := ke _ he
      split at h
      · rename_i i hi
        cases h
        obtain ⟨r, r2, me, r3, r4, r5⟩ := find_asking ht hr w (off + 1) hi (by simpa using hl) hm'
        exact ⟨r, by simp [Instr.findAsking, r1, r2], me, by simpa using r3, r4, by rw [r5]; congr 2; omega⟩
      · rename_i r0 hne
        cases res with
        | none =>
          obtain ⟨r, r2, r3⟩ := find_asking ht hr w (off + 1) h (by simpa using hl) hm'
          exact ⟨r, by simp [Instr.findAsking, r1, r2], r3⟩
        | some i => exact absurd h (hne i)
    · cases h
theorem find_now {d : TypeDesc} {kind : Nat} {ι : Io} {key : V} {u : Value} (ke : ∀ k u' r, keyEq kind key k = some r → RV ι k u' → Instr.sameNow d u u' = some r ∧ (r = true → u' = u)) : ∀ {m : List (V × V)} {es : List MapEntry} {res : Option Nat} (off : Nat), findE kind key m = some res → es.length = m.length →
    (∀ (i : Nat) k v, m[i]? = some (k, v) → ∃ me : MapEntry, es[i]? = some me ∧ RV ι k me.key) → ∃ r, Instr.findNow d u es off = some r ∧ Found es u off res r
  | [], [], res, off, h, hl, hm => by cases h; exact ⟨none, rfl, rfl⟩
  | [], _ :: _, res, off, h, hl, hm => by simp at hl
  | _ :: _, [], res, off, h, hl, hm => by simp at hl
  | (k, v) :: m, e :: es, res, off, h, hl, hm => by
    obtain ⟨me, h1, h2⟩ := hm 0 k v rfl
    simp at h1
    subst h1
    have hm' : ∀ (i : Nat) k v, m[i]? = some (k, v) → ∃ me : MapEntry, es[i]? = some me ∧ RV ι k me.key := fun i k v h => hm (i + 1) k v (by simpa using h)
    rw [findE_cons] at h
    split at h
    · rename_i he
      cases h
      obtain ⟨r1, r2⟩ := ke _ _ _ he h2
      exact ⟨some (off, e.val), by simp [Instr.findNow, r1], e, rfl, r2 rfl, rfl⟩
    · rename_i he
      obtain ⟨r1, _⟩ := ke _ _ _ he h2
      split at h
      · rename_i i hi
        cases h
        obtain ⟨r, r2, me, r3, r4, r5⟩ := find_now ke (off + 1) hi (by simpa using hl) hm'
        exact ⟨r, by simp [Instr.findNow, r1, r2], me, by simpa using r3, r4, by rw [r5]; congr 2; omega⟩
      · rename_i r0 hne
        cases res with
        | none =>
          obtain ⟨r, r2, r3⟩ := find_now ke (off + 1) h (by simpa using hl) hm'
          exact ⟨r, by simp [Instr.findNow, r1, r2], r3⟩
        | some i => exact absurd h (hne i)
    · cases h
theorem key_find {P : Program} {kt : TypeId} {kind : Nat} (hk : KindOk P kt kind) {ι : Io} {key : V} {u : Value} (hr : RV ι key u) (w : World) {m : List (V × V)} {es : List MapEntry} {res : Option Nat} (h : findE kind key m = some res) (hl : es.length = m.length)
    (hm : ∀ (i : Nat) k v, m[i]? = some (k, v) → ∃ me : MapEntry, es[i]? = some me ∧ RV ι k me.key) : ∃ r, (Instr.findKey kt u es).run P w = .ok r w ∧ Found es u 0 res r := by
  match kind, hk with
  | 0, hk =>
    have hk : P.underlying kt = some .string := hk
    obtain ⟨r, h1, h2⟩ := find_now (d := .string) (u := u) (ι := ι) (key := key) (kind := 0) (fun k u' r he hr' => by
      unfold keyEq at he
      split at he
      · rename_i n1 a1 m1 b1 _
        obtain ⟨s, rfl, hs⟩ := hr
        obtain ⟨t, rfl, ht⟩ := hr'
        cases he
        have e : (s == t) = seq n1 a1 m1 b1 := by
          rw [← hs.1, ← hs.2, ← ht.1, ← ht.2, ← seq_spec]
          by_cases c : s = t
          · subst c; rw [(bytes_beq s s).2 rfl]; simp
          · have c2 : ¬ s.data.toList = t.data.toList := fun e => c (WideShapes.bytes_inj e)
            have : (s == t) = false := by cases hb : (s == t) with | false => rfl | true => exact absurd ((bytes_beq s t).1 hb) c
            have c3 : ¬ s.data = t.data := fun e => c2 (by rw [e])
            rw [this]; simp [c3]
        refine ⟨by simp [Instr.sameNow, e], fun ht' => ?_⟩
        rw [← e] at ht'
        rw [(bytes_beq s t).1 ht']
      · rename_i heq; cases heq
      · rename_i heq; cases heq
      · cases he) 0 h hl hm
    exact ⟨r, run_findKey hk h1, h2⟩
  | 1, hk =>
    obtain ⟨k0, hk⟩ := hk
    obtain ⟨r, h1, h2⟩ := find_now (d := .int k0) (u := u) (ι := ι) (key := key) (kind := 1) (fun k u' r he hr' => by
      unfold keyEq at he
      split at he
      · rename_i heq; cases heq
      · rename_i k1 a k2 b _
        have hr : u = _ := hr
        have hr' : u' = _ := hr'
        subst hr hr'
        cases hc : Nat.beq (ikN k1) (ikN k2) with
        | false => rw [hc] at he; cases he
        | true =>
          rw [hc] at he
          have := ikN_inj hc
          subst this
          simp only [cond_true, Option.some.injEq] at he
          rw [ieq_eq] at he
          subst he
          refine ⟨by simp [Instr.sameNow]; by_cases c : a = b <;> simp [c], fun ht => ?_⟩
          rw [of_decide_eq_true ht]
      · rename_i heq; cases heq
      · cases he) 0 h hl hm
    exact ⟨r, run_findKey hk h1, h2⟩
  | n + 2, hk =>
    have hk : strStruct P kt = some n := hk
    obtain ⟨r, h1, h2⟩ := find_asking hk hr w 0 h hl hm
    refine ⟨r, ?_, h2⟩
    have hw : (match P.underlying kt with | some (.array _ _) | some (.struct _) => true | _ => false) = true := by
      unfold strStruct at hk
      split at hk <;> try cases hk
      rename_i fs hu
      rw [hu]
    rw [run_findKey_eq w hw]; exact h1
structure MTab where
  get : TypeId → Option (TypeId × TypeId × Nat × Bool)
  fl : TypeId → Bool
  fd : TypeId → Nat → Option Nat
  pe : TypeId → Option TypeId
instance : CoeFun MTab (fun _ => TypeId → Option (TypeId × TypeId × Nat × Bool)) := ⟨MTab.get⟩
def zeroAgg (P : Program) (e : TypeId) : Option Bool :=
  match P.info? e with
  | some i => match i.zero with
    | some (.agg _) => some true
    | some _ => some false
    | none => none
  | none => none
def MTabOk (P : Program) (M : MTab) : Prop := ∀ t kt e kind g, M t = some (kt, e, kind, g) → P.underlying t = some (.map kt e) ∧ KindOk P kt kind ∧ zeroAgg P e = some g
noncomputable def zeroE (T : Tab) (e : TypeId) (g : Bool) : Option V :=
  match T.zd e, g with
  | some zs, true => some (.ag (zeroV zs))
  | some [z], false => some (zV z)
  | _, _ => none
theorem zeroE_ok {P : Program} {T : Tab} (hT : TabOk P T) {e : TypeId} {g : Bool} (hg : zeroAgg P e = some g) {z : V} (hz : zeroE T e g = some z) : ∃ u, (∀ w, (zeroValue e).run P w = .ok u w) ∧ ∀ ι, RV ι z u := by
  unfold zeroE at hz
  unfold zeroAgg at hg
  split at hz
  · rename_i zs hzd
    cases hz
    obtain ⟨i, zv, hi, hz', hrz⟩ := zeroD_spec (hT.zd _ _ hzd)
    rw [hi] at hg
    simp only [hz'] at hg
    split at hg
    · rename_i cs hcs
      cases hcs
      exact ⟨.agg cs, fun w => by simp [zeroValue, typeInfo, hi, hz'], fun ι => ⟨cs.toList, by simp, by simpa [Value.cells] using zeroV_ok (ι := ι) hrz⟩⟩
    · cases hg
    · cases hg
  · rename_i zd hzd
    cases hz
    obtain ⟨i, zv, hi, hz', hrz⟩ := zeroD_spec (hT.zd _ _ hzd)
    rw [hi] at hg
    simp only [hz'] at hg
    split at hg
    · cases hg
    · rename_i x v hne hv
      cases hv
      have hc : zv.cells = #[zv] := by cases zv <;> first | rfl | (exact absurd rfl (hne _))
      refine ⟨zv, fun w => by simp [zeroValue, typeInfo, hi, hz'], fun ι => ?_⟩
      have := (hrz ⟨fun _ _ => none, fun _ => none⟩)
      rw [hc] at this
      exact zV_ok (this.2 0 zv zd rfl rfl)
    · cases hg
  · cases hz
theorem keyEq_s (n a m b : Nat) : keyEq 0 (.s n a) (.s m b) = some (seq n a m b) := rfl
theorem seq_iff {n a m b : Nat} : seq n a m b = true ↔ n = m ∧ a = b := by
  unfold seq
  rw [beq_eq, beq_eq]
  by_cases h1 : n = m <;> by_cases h2 : a = b <;> simp [h1, h2]
theorem find_text {n a : Nat} : ∀ {m : List (V × V)}, (∀ p ∈ m, ∃ n a, p.1 = .s n a) → ∃ r, findE 0 (.s n a) m = some r ∧ (r = none → ∀ p ∈ m, p.1 ≠ .s n a) ∧ ∀ i, r = some i → ∃ p, m[i]? = some p ∧ p.1 = .s n a
  | [], _ => ⟨none, rfl, fun _ p hp => (by cases hp), fun i hi => by cases hi⟩
  | p :: m, h => by
    obtain ⟨m1, b1, hp⟩ := h p (by simp)
    obtain ⟨r, h1, h2, h3⟩ := find_text (n := n) (a := a) (m := m) fun q hq => h q (by simp [hq])
    rw [findE_cons, hp, keyEq_s]
    cases hc : seq n a m1 b1 with
    | true =>
      obtain ⟨e1, e2⟩ := seq_iff.1 hc
      exact ⟨some 0, rfl, fun e => by (cases e), fun i hi => by cases hi; exact ⟨p, rfl, by rw [hp, e1, e2]⟩⟩
    | false =>
      have hne : p.1 ≠ .s n a := fun e => by
        rw [hp] at e; cases e
        rw [seq_iff.2 ⟨rfl, rfl⟩] at hc; cases hc
      cases r with
      | none =>
        refine ⟨none, by simp only [h1], fun _ q hq => ?_, fun i hi => by cases hi⟩
        rcases List.mem_cons.1 hq with e | e
        · rw [e]; exact hne
        · exact h2 rfl q e
      | some i =>
        obtain ⟨q, q1, q2⟩ := h3 i rfl
        exact ⟨some (i + 1), by simp only [h1], fun e => by (cases e), fun j hj => by cases hj; exact ⟨q, by simpa using q1, q2⟩⟩
theorem find_perm {n a : Nat} {es : List (V × V)} (hd : Dist es) {js : List Nat} (hj : ∀ (q j : Nat), js[q]? = some j → ∃ p, es[j]? = some p) (hs : ∀ j, j < es.length → j ∈ js) {r : Option Nat} (h : findE 0 (.s n a) es = some r) :
    ∃ r', findE 0 (.s n a) (js.map fun j => es.getD j (.j, .j)) = some r' ∧ (r = none → r' = none) ∧ ∀ i, r = some i → ∃ q, r' = some q ∧ js[q]? = some i := by
  obtain ⟨r0, e0, n0, s0⟩ := find_text (n := n) (a := a) hd.text
  rw [h] at e0; cases e0
  have hm : ∀ p ∈ js.map fun j => es.getD j (.j, .j), p ∈ es := fun p hp => by
    obtain ⟨j, h1, rfl⟩ := List.mem_map.1 hp
    obtain ⟨q, h2⟩ := List.getElem?_of_mem h1
    obtain ⟨p, h3⟩ := hj q j h2
    rw [List.getD_eq_getElem?_getD, h3]
    exact List.mem_of_getElem? h3
  obtain ⟨r', e1, n1, s1⟩ := find_text (n := n) (a := a) (m := js.map fun j => es.getD j (.j, .j)) fun p hp => hd.text p (hm p hp)
  refine ⟨r', e1, fun hr => ?_, fun i hi => ?_⟩
  · cases r' with
    | none => rfl
    | some q =>
      obtain ⟨p, h1, h2⟩ := s1 q rfl
      exact absurd h2 (n0 hr p (hm p (List.mem_of_getElem? h1)))
  · subst hi
    obtain ⟨p, h1, h2⟩ := s0 i rfl
    have hil : i < es.length := (List.getElem?_eq_some_iff.1 h1).1
    cases r' with
    | none =>
      refine absurd h2 (n1 rfl p ?_)
      exact List.mem_map.2 ⟨i, hs i hil, by rw [List.getD_eq_getElem?_getD, h1]; rfl⟩
    | some q =>
      obtain ⟨p', h3, h4⟩ := s1 q rfl
      rw [List.getElem?_map] at h3
      cases hq : js[q]? with
      | none => rw [hq] at h3; cases h3
      | some j =>
        rw [hq] at h3
        obtain ⟨p2, h5⟩ := hj q j hq
        have e : p2 = p' := by
          have h3 : es.getD j (.j, .j) = p' := Option.some.inj h3
          rw [List.getD_eq_getElem?_getD, h5] at h3; exact h3
        have := hd.one i j p p2 h1 h5 (by rw [h2, e, h4])
        exact ⟨q, rfl, by rw [this]; exact hq⟩
noncomputable def evMkMap (h : H) (n : Id) (k : KV) : R := match nxt n with | some n' => k (.mp n) (hset (.mp []) n h) n' | none => none
noncomputable def evLook (T : Tab) (M : MTab) (t : TypeId) (x key : V) (ok : Bool) (h : H) (kk : KP) : R :=
  match M t with
  | some (_, e, kind, g) => cond (keyOk kind key) (match zeroE T e g with
    | some z => (match x with
      | .nm => kk (cond ok (.tp [z, .b false]) z)
      | .mp o => (match hget o h with
        | some (.mp es) => (match findE kind key es with
          | some none => kk (cond ok (.tp [z, .b false]) z)
          | some (some i) => (match getL i es with | some p => kk (cond ok (.tp [p.2, .b true]) p.2) | none => none)
          | none => none)
        | some (.lm es) => (match kind with
          | 0 => (match findE 0 key es with
            | some none => kk (cond ok (.tp [z, .b false]) z)
            | some (some i) => (match getL i es with | some p => kk (cond ok (.tp [p.2, .b true]) p.2) | none => none)
            | none => none)
          | _ => none)
        | _ => none)
      | _ => none)
    | none => none) none
  | none => none
noncomputable def evMapUpd (M : MTab) (t : TypeId) (x key v : V) (h : H) (n : Id) (k : KV) : R :=
  match M t with
  | some (_, _, kind, _) => cond (keyOk kind key) (match x with
    | .mp o => (match hget o h with
      | some (.mp es) => (match findE kind key es with
        | some none => k .j (hset (.mp (appL es [(key, v)])) o h) n
        | some (some i) => k .j (hset (.mp (setL (key, v) i es)) o h) n
        | none => none)
      | _ => none)
    | _ => none) none
  | none => none
noncomputable def evMapEnt (T : Tab) (M : MTab) (t : TypeId) (x key : V) (h : H) (n : Id) (k : KV) : R :=
  match M t with
  | some (_, e, kind, g) => cond (keyOk kind key) (match zeroE T e g with
    | some z => (match x with
      | .mp o => (match hget o h with
        | some (.mp es) => (match findE kind key es with
          | some none => fN (lenL es) fun l => k (.tp [z, .i .i64 (.ofNat l)]) (hset (.mp (appL es [(key, z)])) o h) n
          | some (some i) => (match getL i es with | some p => fN i fun i => k (.tp [p.2, .i .i64 (.ofNat i)]) (hset (.mp (setL (key, p.2) i es)) o h) n | none => none)
          | none => none)
        | _ => none)
      | _ => none)
    | none => none) none
  | none => none
noncomputable def evEntSt (x st v : V) (h : H) (n : Id) (k : KV) : R :=
  match x, st with
  | .mp o, .i _ (.ofNat i) => (match hget o h with
    | some (.mp es) => (match getL i es with | some p => k .j (hset (.mp (setL (p.1, v) i es)) o h) n | none => none)
    | _ => none)
  | _, _ => none
section
variable {P : Program} {T : Tab} (hT : TabOk P T) {M : MTab} (hM : MTabOk P M) {E : Operand → V} {h : H} {n : Id} {k : KV}
theorem mkMap_ok (t : TypeId) : Ob P (.makeMap t none) E h n k (evMkMap h n k) := by
  unfold evMkMap
  split
  · rename_i n' hn
    refine ob_mk fun o ho w0 ι ρ w hb hρ => ?_
    have : (execOp ρ o).run P w = .ok (.value (.map (some w.heap.size))) (w.alloc (.map #[] 0)) := by
      simp [execOp, ho, run_makeMap, Result.andThen]
    rw [this]
    exact ⟨_, hb.ext ⟨w.heap.size, 0, 0⟩, hb.alloc hn (World.grownBy_alloc w _ none) (Nat.le_refl _) _ _ rfl (by simp) ⟨#[], 0, (MapKept.heap_alloc w _).1, rfl, rfl, fun i k v h => by simp at h⟩, ⟨w.heap.size, 0, 0⟩, upI_same _ _ _, rfl⟩
  · exact ob_none
theorem RV_two {ι : Io} {x y : V} {u v : Value} (h1 : RV ι x u) (h2 : RV ι y v) : RV ι (.tp [x, y]) (.tuple #[u, v]) := ⟨[u, v], rfl, _, _, rfl, h1, _, _, rfl, h2, rfl⟩
include hT hM in
theorem look_ok (t : TypeId) (x i : Operand) (ok : Bool) : Ob P (.lookup t x i ok) E h n k (evLook T M t (E x) (E i) ok h fun v => k v h n) := by
  unfold evLook
  split
  · rename_i kt e kind g hm
    obtain ⟨ut, hk, hg⟩ := hM _ _ _ _ _ hm
    refine ob_cond fun hok => ?_
    split
    · rename_i z hz
      obtain ⟨zu, hzr, hzv⟩ := zeroE_ok hT hg hz
      have fin : ∀ (ι : Io) (v : V) (u : Value) (b : Bool), RV ι v u → RV ι (cond ok (.tp [v, .b b]) v) (if ok then .tuple #[u, .bool b] else u) := fun ι v u b h => by
        cases ok
        · exact h
        · exact RV_two h rfl
      split
      · rename_i hx
        refine ob_mk (xop_pure fun o ho w0 ι ρ w hb hρ => ?_)
        have h1 := hρ x (by simp [Op.operands])
        have h2 := hρ i (by simp [Op.operands])
        rw [hx] at h1
        have h1 : ρ x = _ := h1
        obtain ⟨c1, _⟩ := key_check hk hok h2 w true
        obtain ⟨r, f1, f2⟩ := key_find hk h2 w (m := []) (es := []) (res := none) rfl rfl (fun i k v h => by simp at h)
        have f2 : r = none := f2
        subst f2
        refine ⟨_, ?_, fin ι z zu false (hzv ι)⟩
        simp [execOp, ho, h1, Instr.lookup, run_underlying ut, c1, f1, hzr]
      · rename_i o' hx
        split
        · rename_i es hget
          split
          · rename_i hf
            refine ob_mk (xop_pure fun o ho w0 ι ρ w hb hρ => ?_)
            have h1 := hρ x (by simp [Op.operands])
            have h2 := hρ i (by simp [Op.operands])
            rw [hx] at h1
            obtain ⟨pl, e1, h1⟩ := h1
            obtain ⟨entries, clock, g1, g2, g3, g4⟩ := hb.obj _ _ _ e1 hget
            obtain ⟨c1, _⟩ := key_check hk hok h2 w entries.isEmpty
            obtain ⟨r, f1, f2⟩ := key_find hk h2 w (es := entries.toList) hf (by simpa using g2) (fun i k v h => by obtain ⟨me, a, b, _⟩ := g4 i k v h; exact ⟨me, by simpa using a, b⟩)
            have f2 : r = none := f2
            subst f2
            refine ⟨_, ?_, fin ι z zu false (hzv ι)⟩
            simp [execOp, ho, h1, Instr.lookup, run_underlying ut, Go.MapKept.run_getObj_map g1, c1, f1, Result.andThen, hzr]
          · rename_i j hf
            rw [getL_eq]
            split
            · rename_i p hp
              refine ob_mk (xop_pure fun o ho w0 ι ρ w hb hρ => ?_)
              have h1 := hρ x (by simp [Op.operands])
              have h2 := hρ i (by simp [Op.operands])
              rw [hx] at h1
              obtain ⟨pl, e1, h1⟩ := h1
              obtain ⟨entries, clock, g1, g2, g3, g4⟩ := hb.obj _ _ _ e1 hget
              obtain ⟨c1, _⟩ := key_check hk hok h2 w entries.isEmpty
              obtain ⟨r, f1, me, f2, f3, f4⟩ := key_find hk h2 w (es := entries.toList) hf (by simpa using g2) (fun i k v h => by obtain ⟨me, a, b, _⟩ := g4 i k v h; exact ⟨me, by simpa using a, b⟩)
              subst f4
              obtain ⟨me', m1, m2, m3, m4⟩ := g4 j p.1 p.2 hp
              rw [Array.getElem?_toList] at f2
              rw [f2] at m1; cases m1
              refine ⟨_, ?_, fin ι p.2 me.val true m3⟩
              simp [execOp, ho, h1, Instr.lookup, run_underlying ut, Go.MapKept.run_getObj_map g1, c1, f1, Result.andThen]
            · exact ob_none
          · exact ob_none
        · rename_i es hget
          split
          ·
            obtain ⟨kn, ka, hkey⟩ : ∃ kn ka, E i = .s kn ka := by
              cases hE : E i <;> rw [hE] at hok <;> first | (exact ⟨_, _, rfl⟩) | cases hok
            have un : ∀ {ι : Io} {w : World} {pl : Pl}, OOk ι w pl (.lm es) → ∀ r, findE 0 (E i) es = some r → ∃ (entries : Array MapEntry) (clock : Nat) (js : List Nat) (r' : Option Nat), w.heap[pl.b]? = some (.map entries clock) ∧ entries.toList.length = (js.map fun j => es.getD j (.j, .j)).length ∧
                (∀ (q : Nat) k v, (js.map fun j => es.getD j (.j, .j))[q]? = some (k, v) → ∃ me : MapEntry, entries.toList[q]? = some me ∧ RV ι k me.key) ∧ findE 0 (E i) (js.map fun j => es.getD j (.j, .j)) = some r' ∧ (r = none → r' = none) ∧
                ∀ j p, r = some j → es[j]? = some p → ∃ q me, r' = some q ∧ entries.toList[q]? = some me ∧ RV ι p.2 me.val := by
              rintro ι w pl ⟨hd, js, entries, g1, g2, g5, g4⟩ r hr
              rw [hkey] at hr ⊢
              obtain ⟨r', e1, e2, e3⟩ := find_perm hd (fun q j h => let ⟨p, _, a, _⟩ := g4 q j h; ⟨p, a⟩) g5 hr
              refine ⟨entries, _, js, r', g1, by simp [g2], fun q k v hq => ?_, e1, e2, fun j p hj hp => ?_⟩
              · rw [List.getElem?_map] at hq
                cases hjq : js[q]? with
                | none => rw [hjq] at hq; cases hq
                | some j =>
                  rw [hjq] at hq
                  obtain ⟨p, me, a, b, c, d⟩ := g4 q j hjq
                  have hq := Option.some.inj hq
                  simp only [List.getD_eq_getElem?_getD, a, Option.getD_some] at hq
                  subst hq
                  exact ⟨me, by simpa using b, c⟩
              · obtain ⟨q, h1, h2⟩ := e3 j hj
                obtain ⟨p', me, a, b, c, d⟩ := g4 q j h2
                rw [hp] at a; cases a
                exact ⟨q, me, h1, by simpa using b, d⟩
            split
            · rename_i hf
              refine ob_mk (xop_pure fun o ho w0 ι ρ w hb hρ => ?_)
              have h1 := hρ x (by simp [Op.operands])
              have h2 := hρ i (by simp [Op.operands])
              rw [hx] at h1
              obtain ⟨pl, e1, h1⟩ := h1
              obtain ⟨entries, clock, js, r', g1, g2, g4, g5, g6, _⟩ := un (hb.obj _ _ _ e1 hget) _ hf
              have g6 := g6 rfl
              subst g6
              obtain ⟨c1, _⟩ := key_check hk hok h2 w entries.isEmpty
              obtain ⟨r, f1, f2⟩ := key_find hk h2 w (es := entries.toList) g5 g2 g4
              have f2 : r = none := f2
              subst f2
              refine ⟨_, ?_, fin ι z zu false (hzv ι)⟩
              simp [execOp, ho, h1, Instr.lookup, run_underlying ut, Go.MapKept.run_getObj_map g1, c1, f1, Result.andThen, hzr]
            · rename_i j hf
              rw [getL_eq]
              split
              · rename_i p hp
                refine ob_mk (xop_pure fun o ho w0 ι ρ w hb hρ => ?_)
                have h1 := hρ x (by simp [Op.operands])
                have h2 := hρ i (by simp [Op.operands])
                rw [hx] at h1
                obtain ⟨pl, e1, h1⟩ := h1
                obtain ⟨entries, clock, js, r', g1, g2, g4, g5, _, g7⟩ := un (hb.obj _ _ _ e1 hget) _ hf
                obtain ⟨q, me, q1, q2, q3⟩ := g7 j p rfl hp
                subst q1
                obtain ⟨c1, _⟩ := key_check hk hok h2 w entries.isEmpty
                obtain ⟨r, f1, me', f2, f3, f4⟩ := key_find hk h2 w (es := entries.toList) g5 g2 g4
                rw [q2] at f2; cases f2
                subst f4
                refine ⟨_, ?_, fin ι p.2 me.val true q3⟩
                simp [execOp, ho, h1, Instr.lookup, run_underlying ut, Go.MapKept.run_getObj_map g1, c1, f1, Result.andThen]
              · exact ob_none
            · exact ob_none
          · exact ob_none
        · exact ob_none
      · exact ob_none
    · exact ob_none
  · exact ob_none
theorem map_set {w0 : Fx} {ι : Io} {w : World} (hb : HR w0 ι h n w) {o : Id} {es : List (V × V)} (hget : hget o h = some (.mp es)) {pl : Pl} (e1 : ι o = some pl) {entries0 : Array MapEntry} {clock0 : Nat} (g1 : w.heap[pl.b]? = some (.map entries0 clock0))
    (entries : Array MapEntry) (es' : List (V × V)) (hl : entries.size = es'.length) (he : ∀ (i : Nat) k v, es'[i]? = some (k, v) → ∃ me : MapEntry, entries[i]? = some me ∧ RV ι k me.key ∧ RV ι v me.val ∧ me.born = i) :
    HR w0 ι (hset (.mp es') o h) n { w with heap := w.heap.setIfInBounds pl.b (.map entries entries.size) } := by
  have hlt : pl.b < w.heap.size := (Array.getElem?_eq_some_iff.1 g1).1
  exact hb.turn (w' := { w with heap := w.heap.setIfInBounds pl.b (.map entries entries.size) }) e1 ⟨_, hget, by intro e; cases e⟩ ⟨rfl, rfl, rfl, by simp, fun j _ hj => by
      have hne : pl.b ≠ j := fun hh => hj (by rw [hh])
      simp [hne]⟩ (Nat.le_refl _) (.mp es') ⟨entries, entries.size, by simp [hlt], hl, rfl, he⟩
include hM in
theorem mapUpd_ok (op : Op) (t : TypeId) (x i y : Operand) (hop : op = .insert t x i y ∨ op = .mapUpdate t x i y) : Ob P op E h n k (evMapUpd M t (E x) (E i) (E y) h n k) := by
  have mx : x ∈ op.operands := by rcases hop with rfl | rfl <;> simp [Op.operands]
  have mi : i ∈ op.operands := by rcases hop with rfl | rfl <;> simp [Op.operands]
  have my : y ∈ op.operands := by rcases hop with rfl | rfl <;> simp [Op.operands]
  have ex : ∀ {o : Oper} (ho : o.op = op) (ρ : Operand → Value) (w w' : World), (Instr.mapUpdate t (ρ x) (ρ i) (ρ y)).run P w = .ok () w' → (execOp ρ o).run P w = .ok .skip w' := fun {o} ho ρ w w' hr => by
    rcases hop with e | e <;> rw [e] at ho <;> simp [execOp, ho, hr]
  unfold evMapUpd
  split
  · rename_i kt e kind g hm
    obtain ⟨ut, hk, hg⟩ := hM _ _ _ _ _ hm
    refine ob_cond fun hok => ?_
    split
    · rename_i o' hx
      split
      · rename_i es hget
        split
        · rename_i hf
          rw [appL_eq]
          refine ob_mk fun o ho w0 ι ρ w hb hρ => ?_
          have h1 := hρ x mx
          have h2 := hρ i mi
          have h3 := hρ y my
          rw [hx] at h1
          obtain ⟨pl, e1, h1⟩ := h1
          obtain ⟨entries, clock, g1, g2, g3, g4⟩ := hb.obj _ _ _ e1 hget
          obtain ⟨c1, c2⟩ := key_check hk hok h2 w false
          obtain ⟨r, f1, f2⟩ := key_find hk h2 w (es := entries.toList) hf (by simpa using g2) (fun i k v h => by obtain ⟨me, a, b, _⟩ := g4 i k v h; exact ⟨me, by simpa using a, b⟩)
          have f2 : r = none := f2
          subst f2 g3
          rw [ex ho ρ w { w with heap := w.heap.setIfInBounds pl.b (.map (entries.push { key := ρ i, val := ρ y, born := entries.size }) (entries.push { key := ρ i, val := ρ y, born := entries.size }).size) }
            (by simp [h1, Instr.mapUpdate, run_underlying ut, Go.MapKept.run_getObj_map g1, c1, f1, Result.andThen, Go.MapKept.run_setObj_map _ g1])]
          refine ⟨rfl, ι, Ext.refl _, map_set hb hget e1 g1 _ _ (by simp [g2]) fun j k v hj => ?_⟩
          rw [List.getElem?_append] at hj
          split at hj
          · obtain ⟨me, m1, m2, m3, m4⟩ := g4 j k v hj
            have : j < entries.size := (Array.getElem?_eq_some_iff.1 m1).1
            exact ⟨me, by rw [Array.getElem?_push, if_neg (by omega)]; exact m1, m2, m3, m4⟩
          · rename_i hge
            have hj0 : j = es.length := by
              have := (List.getElem?_eq_some_iff.1 hj).1
              simp at this; omega
            subst hj0
            simp at hj
            obtain ⟨rfl, rfl⟩ := hj
            exact ⟨_, by rw [Array.getElem?_push, if_pos g2.symm], h2, h3, g2⟩
        · rename_i j hf
          rw [setL_eq]
          refine ob_mk fun o ho w0 ι ρ w hb hρ => ?_
          have h1 := hρ x mx
          have h2 := hρ i mi
          have h3 := hρ y my
          rw [hx] at h1
          obtain ⟨pl, e1, h1⟩ := h1
          obtain ⟨entries, clock, g1, g2, g3, g4⟩ := hb.obj _ _ _ e1 hget
          obtain ⟨c1, c2⟩ := key_check hk hok h2 w false
          obtain ⟨r, f1, me, f2, f3, f4⟩ := key_find hk h2 w (es := entries.toList) hf (by simpa using g2) (fun i k v h => by obtain ⟨me, a, b, _⟩ := g4 i k v h; exact ⟨me, by simpa using a, b⟩)
          subst f4 g3
          rw [Array.getElem?_toList] at f2
          rw [ex ho ρ w { w with heap := w.heap.setIfInBounds pl.b (.map (entries.modify j fun e => { e with key := ρ i, val := ρ y }) (entries.modify j fun e => { e with key := ρ i, val := ρ y }).size) }
            (by simp [h1, Instr.mapUpdate, run_underlying ut, Go.MapKept.run_getObj_map g1, c1, f1, f2, f3, c2, Result.andThen, Go.MapKept.run_setObj_map _ g1])]
          refine ⟨rfl, ι, Ext.refl _, map_set hb hget e1 g1 _ _ (by simp [g2]) fun l k v hj => ?_⟩
          by_cases hij : j = l
          · subst hij
            rw [List.getElem?_set, if_pos rfl] at hj
            split at hj
            · cases hj
              have hb2 : me.born = j := by
                have hlt : j < es.length := by assumption
                obtain ⟨me', m1, _, _, m4⟩ := g4 j es[j].1 es[j].2 (by simp [hlt])
                rw [f2] at m1; cases m1; exact m4
              exact ⟨{ me with key := ρ i, val := ρ y }, by rw [Array.getElem?_modify, if_pos rfl, f2]; rfl, h2, h3, hb2⟩
            · cases hj
          · rw [List.getElem?_set, if_neg hij] at hj
            obtain ⟨me', m1, m2⟩ := g4 l k v hj
            exact ⟨me', by rw [Array.getElem?_modify, if_neg hij]; exact m1, m2⟩
        · exact ob_none
      · exact ob_none
    · exact ob_none
  · exact ob_none
include hT hM in
theorem mapEnt_ok (t : TypeId) (x i : Operand) : Ob P (.mapEntry t x i) E h n k (evMapEnt T M t (E x) (E i) h n k) := by
  unfold evMapEnt
  split
  · rename_i kt e kind g hm
    obtain ⟨ut, hk, hg⟩ := hM _ _ _ _ _ hm
    refine ob_cond fun hok => ?_
    split
    · rename_i z hz
      obtain ⟨zu, hzr, hzv⟩ := zeroE_ok hT hg hz
      split
      · rename_i o' hx
        split
        · rename_i es hget
          split
          · rename_i hf
            rw [appL_eq, lenL_eq, fN_eq]
            refine ob_mk fun o ho w0 ι ρ w hb hρ => ?_
            have h1 := hρ x (by simp [Op.operands])
            have h2 := hρ i (by simp [Op.operands])
            rw [hx] at h1
            obtain ⟨pl, e1, h1⟩ := h1
            obtain ⟨entries, clock, g1, g2, g3, g4⟩ := hb.obj _ _ _ e1 hget
            obtain ⟨c1, c2⟩ := key_check hk hok h2 w false
            obtain ⟨r, f1, f2⟩ := key_find hk h2 w (es := entries.toList) hf (by simpa using g2) (fun i k v h => by obtain ⟨me, a, b, _⟩ := g4 i k v h; exact ⟨me, by simpa using a, b⟩)
            have f2 : r = none := f2
            subst f2 g3
            have hrun : (execOp ρ o).run P w = .ok (.value (.tuple #[zu, .int .i64 entries.size])) { w with heap := w.heap.setIfInBounds pl.b (.map (entries.push { key := ρ i, val := zu, born := entries.size }) (entries.push { key := ρ i, val := zu, born := entries.size }).size) } := by
              simp [execOp, ho, h1, Instr.mapEntry, run_underlying ut, Go.MapKept.run_getObj_map g1, c1, f1, Result.andThen, hzr, Go.MapKept.run_setObj_map _ g1, goInt]
            rw [hrun]
            refine ⟨ι, Ext.refl _, map_set hb hget e1 g1 _ _ (by simp [g2]) fun j k v hj => ?_, RV_two (hzv ι) (by rw [← g2]; rfl)⟩
            rw [List.getElem?_append] at hj
            split at hj
            · obtain ⟨me, m1, m2, m3, m4⟩ := g4 j k v hj
              have : j < entries.size := (Array.getElem?_eq_some_iff.1 m1).1
              exact ⟨me, by rw [Array.getElem?_push, if_neg (by omega)]; exact m1, m2, m3, m4⟩
            · rename_i hge
              have hj0 : j = es.length := by
                have := (List.getElem?_eq_some_iff.1 hj).1
                simp at this; omega
              subst hj0
              simp at hj
              obtain ⟨rfl, rfl⟩ := hj
              exact ⟨_, by rw [Array.getElem?_push, if_pos g2.symm], h2, hzv ι, g2⟩
          · rename_i j hf
            rw [getL_eq]
            split
            · rename_i p hp
              rw [fN_eq, setL_eq]
              refine ob_mk fun o ho w0 ι ρ w hb hρ => ?_
              have h1 := hρ x (by simp [Op.operands])
              have h2 := hρ i (by simp [Op.operands])
              rw [hx] at h1
              obtain ⟨pl, e1, h1⟩ := h1
              obtain ⟨entries, clock, g1, g2, g3, g4⟩ := hb.obj _ _ _ e1 hget
              obtain ⟨c1, c2⟩ := key_check hk hok h2 w false
              obtain ⟨r, f1, me, f2, f3, f4⟩ := key_find hk h2 w (es := entries.toList) hf (by simpa using g2) (fun i k v h => by obtain ⟨me, a, b, _⟩ := g4 i k v h; exact ⟨me, by simpa using a, b⟩)
              subst f4 g3
              rw [Array.getElem?_toList] at f2
              obtain ⟨me', m1, m2, m3, m4⟩ := g4 j p.1 p.2 hp
              rw [f2] at m1; cases m1
              have hrun : (execOp ρ o).run P w = .ok (.value (.tuple #[me.val, .int .i64 me.born])) { w with heap := w.heap.setIfInBounds pl.b (.map (entries.modify j fun e => { e with key := ρ i }) (entries.modify j fun e => { e with key := ρ i }).size) } := by
                simp [execOp, ho, h1, Instr.mapEntry, run_underlying ut, Go.MapKept.run_getObj_map g1, c1, f1, f2, f3, c2, Result.andThen, Go.MapKept.run_setObj_map _ g1, goInt]
              rw [hrun]
              refine ⟨ι, Ext.refl _, map_set hb hget e1 g1 _ _ (by simp [g2]) fun l k v hj => ?_, RV_two m3 (by rw [m4]; rfl)⟩
              by_cases hij : j = l
              · subst hij
                rw [List.getElem?_set, if_pos rfl] at hj
                split at hj
                · cases hj
                  exact ⟨{ me with key := ρ i }, by rw [Array.getElem?_modify, if_pos rfl, f2]; rfl, h2, m3, m4⟩
                · cases hj
              · rw [List.getElem?_set, if_neg hij] at hj
                obtain ⟨me', m1, m2⟩ := g4 l k v hj
                exact ⟨me', by rw [Array.getElem?_modify, if_neg hij]; exact m1, m2⟩
            · exact ob_none
          · exact ob_none
        · exact ob_none
      · exact ob_none
    · exact ob_none
  · exact ob_none
theorem entSt_ok (t : TypeId) (x i y : Operand) : Ob P (.entryStore t x i y) E h n k (evEntSt (E x) (E i) (E y) h n k) := by
  unfold evEntSt
  split
  · rename_i o' ki j hx hi
    split
    · rename_i es hget
      rw [getL_eq]
      split
      · rename_i p hp
        rw [setL_eq]
        refine ob_mk fun o ho w0 ι ρ w hb hρ => ?_
        have h1 := hρ x (by simp [Op.operands])
        have h2 := hρ i (by simp [Op.operands])
        have h3 := hρ y (by simp [Op.operands])
        rw [hx] at h1
        rw [hi] at h2
        have h2 : ρ i = .int ki (j : Int) := h2
        obtain ⟨pl, e1, h1⟩ := h1
        obtain ⟨entries, clock, g1, g2, g3, g4⟩ := hb.obj _ _ _ e1 hget
        subst g3
        obtain ⟨me, m1, m2, m3, m4⟩ := g4 j p.1 p.2 hp
        have hjl : j < entries.size := (Array.getElem?_eq_some_iff.1 m1).1
        have hfi : entries.findIdx? (fun e => (e.born : Int) == (j : Int)) = some j := by
          rw [Array.findIdx?_eq_some_iff_getElem]
          have hb1 : ∀ i (h : i < entries.size), entries[i].born = i := fun i hlt => by
            have hi2 : i < es.length := by omega
            obtain ⟨me', q1, _, _, q4⟩ := g4 i es[i].1 es[i].2 (by simp [hi2])
            rw [Array.getElem?_eq_getElem hlt] at q1; cases q1; exact q4
          refine ⟨hjl, by simp [hb1 j hjl], fun i hi => ?_⟩
          have := hb1 i (by omega)
          simp [this]
          omega
        have hrun : (execOp ρ o).run P w = .ok .skip { w with heap := w.heap.setIfInBounds pl.b (.map (entries.modify j fun e => { e with val := ρ y }) (entries.modify j fun e => { e with val := ρ y }).size) } := by
          simp [execOp, ho, h1, h2, Instr.entryStore, Go.MapKept.run_getObj_map g1, asInt, asIntOf, hfi, Result.andThen, Go.MapKept.run_setObj_map _ g1]
        rw [hrun]
        refine ⟨rfl, ι, Ext.refl _, map_set hb hget e1 g1 _ _ (by simp [g2]) fun l k v hj => ?_⟩
        by_cases hij : j = l
        · subst hij
          rw [List.getElem?_set, if_pos rfl] at hj
          split at hj
          · cases hj
            exact ⟨{ me with val := ρ y }, by rw [Array.getElem?_modify, if_pos rfl, m1]; rfl, m2, h3, m4⟩
          · cases hj
        · rw [List.getElem?_set, if_neg hij] at hj
          obtain ⟨me', q1, q2⟩ := g4 l k v hj
          exact ⟨me', by rw [Array.getElem?_modify, if_neg hij]; exact q1, q2⟩
      · exact ob_none
    · exact ob_none
  · exact ob_none
end
end Go.Proofs.Nw.X
end
