/- Bundle 13: NwZI3, NwK35, NwZI4, NwZI5, NwZI6, NwZL1, NwZI7, NwZP8, NwZI8. -/
import Derived.Test.YtblenipidihemaaGreatDoorNwA12
import Derived.Lib.Bytealg
section
/- QI3: index.New: the walk. -/
open Go Go.RowKit Go.Proofs
set_option linter.unusedVariables false
set_option linter.unusedSimpArgs false
set_option maxHeartbeats 1000000
namespace Go.Proofs.Nw.K

theorem stI_nil : stI [] = [.mp [], .mp [], .box 63 (cellsI 0), .row 0 29 3 []] := rfl

theorem stI_length (d : List Item) : (stI d).length = (versOf (d.map (·.coord))).length + 4 := by simp [stI, dynV]
theorem stI_below (d : List Item) : ((stI d).all (objBelow (stI d).length)) = true := by
  rw [stI_length]
  generalize hV : versOf (d.map (·.coord)) = V
  simp only [stI, hV, List.all_cons, Bool.and_eq_true]
  refine ⟨?_, ?_, ?_, rfl, ?_⟩
  · simp only [objBelow, ents, textT, List.map_map, List.all_map, List.all_eq_true]
    intro x _
    rfl
  · exact vmp_below 4 _ V (by omega)
  · simp only [objBelow, cellsI, List.all_cons, List.all_nil, Bool.and_true, belowN, Bool.and_eq_true, decide_eq_true_eq]
    omega
  · simp only [dynV, List.all_map, List.all_eq_true]
    intro x _
    rfl
theorem keepI {N : Fm} (hN : N.o = 0) {env : Env} {st : List AO} (d : List Item) (l : List (Nat × AV)) (hst : st.take (stI d).length = stI d) (ha : agree env (stI d).length l) : Sub N env st (ofL l) (stI d) :=
  Sub.ofL l (stI d) (by omega) ha hst (stI_below d)

def lookT (c : Coord) (d : List Item) : Str := lookM emp c (d.map fun it => (it.coord, it.text))
theorem lookT_eq (c : Coord) : ∀ (d : List Item), lookM (AV.str emp) c (textT d) = .v (.one (dstr (lookT c d)))
  | [] => rfl
  | it :: r => by
    have := lookT_eq c r
    unfold lookT textT at *
    simp only [List.map_cons, lookM]
    split
    · rfl
    · exact this
theorem ref_val {c : Coord} (σ : Sig) (gh : List Value) (st : List AO) (v : Value) (h : RepA σ gh st v (.agg (encCoord c))) : v = kvC c := strs_val (l := ksC c) h

theorem mem_updM {α β : Type} [DecidableEq α] (p : α) (x : β) : ∀ (V : List (α × β)) (e : α × β), e ∈ updM p x V → e = (p, x) ∨ e ∈ V
  | [], e, h => by simp [updM] at h; exact .inl h
  | (q, u) :: r, e, h => by
    unfold updM at h
    split at h
    · rename_i he
      rcases List.mem_cons.1 h with rfl | h
      · exact .inl (by rw [he])
      · exact .inr (by simp [h])
    · rcases List.mem_cons.1 h with rfl | h
      · exact .inr (by simp)
      · rcases mem_updM p x r e h with h | h
        · exact .inl h
        · exact .inr (by simp [h])
theorem lookM_mem {β : Type} (p : Pj) (z : β) : ∀ (V : List (Pj × β)), lookM z p V = z ∨ (p, lookM z p V) ∈ V
  | [] => .inl rfl
  | (q, u) :: r => by
    unfold lookM
    split
    · rename_i he; exact .inr (by rw [he]; simp)
    · rcases lookM_mem p z r with h | h
      · exact .inl h
      · exact .inr (by simp [h])
theorem versOf_le (l : List Coord) : ∀ e ∈ versOf l, e.2.length ≤ l.length := by
  have key : ∀ (n : Nat) (l : List Coord), l.length = n → ∀ e ∈ versOf l, e.2.length ≤ n := by
    intro n
    induction n with
    | zero => intro l hl e he; rw [List.eq_nil_of_length_eq_zero hl] at he; cases he
    | succ n ih =>
      intro l hl e he
      obtain ⟨r, c, rfl⟩ : ∃ r c, l = r ++ [c] := ⟨l.dropLast, l.getLast (by intro h; simp [h] at hl), (List.dropLast_concat_getLast _).symm⟩
      have hr : r.length = n := by simpa using hl
      rw [versOf_snoc] at he
      rcases mem_updM _ _ _ _ he with h | h
      · rw [h]
        simp only [List.length_append, List.length_cons, List.length_nil]
        rcases lookM_mem (prj c) [] (versOf r) with h2 | h2
        · rw [h2]; simp
        · have := ih r hr _ h2
          simp only at this
          omega
      · have := ih r hr e h
        omega
  exact key l.length l rfl
theorem lookM_le (l : List Coord) (p : Pj) : (lookM [] p (versOf l)).length ≤ l.length := by
  rcases lookM_mem p [] (versOf l) with h | h
  · rw [h]; simp
  · exact versOf_le l _ h
section
universe u
variable {α : Type} {β : Type u} [DecidableEq α]
def idxM' (k : α) (m : List (α × β)) : Nat := (fndM k m).getD m.length
theorem fndM_lt {k : α} : ∀ {m : List (α × β)} {i : Nat}, fndM k m = some i → i < m.length
  | [], i, h => by cases h
  | (a, x) :: r, i, h => by
    unfold fndM at h
    split at h
    · cases h; simp
    · obtain ⟨j, hj, rfl⟩ := Option.map_eq_some_iff.1 h
      have := fndM_lt hj
      simp; omega
theorem ent_upd (k : α) (m : List (α × AV)) (z y : AV) : (entM z k m).set (idxM k m) (k, y) = updM k y m := by
  unfold entM idxM
  cases h : fndM k m with
  | none =>
    rw [(fndM_none (z := z) (d := y) h).2.1]
    simp
  | some i =>
    obtain ⟨x, _, _, h3⟩ := fndM_some (z := z) (d := y) h
    rw [h3]; rfl
theorem ent_get (k : α) (m : List (α × AV)) (z : AV) : ∃ z', (entM z k m)[idxM k m]? = some (k, z') := by
  unfold entM idxM
  cases h : fndM k m with
  | none => exact ⟨z, by simp⟩
  | some i =>
    obtain ⟨x, h1, _, _⟩ := fndM_some (z := z) (d := z) h
    exact ⟨x, h1⟩
theorem upd_get (k : α) (m : List (α × β)) (y : β) : (updM k y m)[idxM' k m]? = some (k, y) := by
  unfold idxM'
  cases h : fndM k m with
  | none => rw [(fndM_none (z := y) (d := y) h).2.1]; simp
  | some i =>
    obtain ⟨x, _, _, h3⟩ := fndM_some (z := y) (d := y) h
    rw [h3]
    simp [fndM_lt h]
end
theorem updV (p : Pj) (x : List Str) (V : List (Pj × List Str)) : updM p (hndV (4 + idxM' p V) x) (vmp 4 V) = vmp 4 (updM p x V) := by
  unfold idxM'
  cases h : fndM p V with
  | none =>
    rw [(fndM_none (z := x) (d := x) h).2.1, (fndM_none (z := AV.nils) (d := hndV (4 + (none : Option Nat).getD V.length) x) (by rw [vmp_fnd]; exact h)).2.1]
    exact vmp_snoc 4 V p x
  | some i =>
    obtain ⟨u, h1, _, h3⟩ := fndM_some (z := x) (d := x) h
    obtain ⟨u', _, _, h6⟩ := fndM_some (z := AV.nils) (d := hndV (4 + i) x) (show fndM p (vmp 4 V) = some i by rw [vmp_fnd]; exact h)
    rw [h3]
    show updM p (hndV (4 + i) x) (vmp 4 V) = _
    rw [h6]
    exact vmp_set 4 i V p x (fndM_lt h)

def mkI (T : List (Coord × AV)) (mV : List (Pj × AV)) (m n : Nat) (cs : List Coord) (dyn : List AO) : List AO := .mp (ents kvC T) :: .mp (ents kvP mV) :: .box 63 (cellsI m) :: .row n 29 3 (cs.map encCoord) :: dyn
theorem appV {E : Operand → AV} (l : List Coord) (hl : l.length ≤ 300) (x y : Operand) (T : List (Coord × AV)) (mV : List (Pj × AV)) (m n : Nat) (cs : List Coord) (p : Pj) (v : Str) (hx : E x = lookM .nils p (vmp 4 (versOf l))) (hy : E y = .list 1 [[dstr v]]) :
    OpS Tryz.prog (.call { callee := .builtin .append, args := #[x, y], argTypes := #[24, 24] }) E (mkI T mV m n cs (dynV (versOf l))) (hndV (4 + idxM' p (versOf l)) (lookM [] p (versOf l) ++ [v])) (mkI T mV m n cs (dynV (updM p (lookM [] p (versOf l) ++ [v]) (versOf l)))) := by
  have hap := tabOk.ap 24 (9, 1, 16) rfl
  have hle := lookM_le l p
  have hpos := versOf_pos l
  generalize versOf l = V at *
  have hM : (301 : Nat) ≤ maxLen := by decide
  unfold idxM'
  cases h : fndM p V with
  | none =>
    obtain ⟨h1, h2, _⟩ := fndM_none (z := ([] : List Str)) (d := ([] ++ [v] : List Str)) h
    obtain ⟨h3, _, _⟩ := fndM_none (z := AV.nils) (d := AV.nils) (show fndM p (vmp 4 V) = none by rw [vmp_fnd]; exact h)
    rw [h3] at hx
    rw [h1, h2]
    have := op_append_nils (P := Tryz.prog) (E := E) (st := mkI T mV m n cs (dynV V)) 24 9 1 16 x y [[dstr v]] hap hx (by rw [hy]; exact Src.list) (by simp) (by simp; omega)
    have e1 : (mkI T mV m n cs (dynV V)).length = 4 + V.length := by simp [mkI, dynV]; omega
    rw [e1] at this
    have e2 : mkI T mV m n cs (dynV V) ++ [AO.row 0 9 1 [[dstr v]]] = mkI T mV m n cs (dynV (V ++ [(p, [] ++ [v])])) := by simp [mkI, dynV, rowV, encStr]
    rw [e2] at this
    exact this
  | some k =>
    obtain ⟨vs, h1, h2, h3⟩ := fndM_some (z := ([] : List Str)) (d := lookM [] p V ++ [v]) h
    obtain ⟨a, h4, h5, _⟩ := fndM_some (z := AV.nils) (d := AV.nils) (show fndM p (vmp 4 V) = some k by rw [vmp_fnd]; exact h)
    rw [vmp_get 4 k V p vs h1] at h4
    cases h4
    rw [h5] at hx
    rw [h3]
    rw [h2] at hle ⊢
    have hp := hpos _ (List.mem_of_getElem? h1)
    simp only at hp
    have hk : (mkI T mV m n cs (dynV V))[4 + k]? = some (.row (vs.length - 1) 9 1 (vs.map encStr)) := by
      rw [Nat.add_comm]
      show (dynV V)[k]? = _
      simp [dynV, h1, rowV]
    have := op_append_h (P := Tryz.prog) (E := E) (st := mkI T mV m n cs (dynV V)) 24 9 1 16 x y (4 + k) (vs.length - 1) vs.length (vs.map encStr) [[dstr v]] hap hx hk (by rw [hy]; exact Src.list) (by simp; omega) (by simp; omega)
    have e0 : vs.length - 1 + 1 = vs.length := by omega
    have e1 : AV.h (4 + k) (vs.length - 1 + 1) 0 (vs.length + [[dstr v]].length) = hndV (4 + k) (vs ++ [v]) := by simp [hndV, e0]
    have e2 : (mkI T mV m n cs (dynV V)).set (4 + k) (.row (vs.length - 1 + 1) 9 1 ((vs.map encStr).take vs.length ++ [[dstr v]])) = mkI T mV m n cs (dynV (V.set k (p, vs ++ [v]))) := by
      have e3 : AO.row (vs.length - 1 + 1) 9 1 ((vs.map encStr).take vs.length ++ [[dstr v]]) = rowV (vs ++ [v]) := by
        rw [List.take_of_length_le (by simp)]
        simp [rowV, e0, encStr]
      rw [e3, Nat.add_comm 4 k]
      simp only [mkI, List.set_cons_succ, dynV, List.map_set]
    rw [e1, e2] at this
    exact this

theorem appCo {E : Operand → AV} (x y : Operand) (T : List (Coord × AV)) (mV : List (Pj × AV)) (m n : Nat) (cs : List Coord) (c : Coord) (dyn : List AO) (hn : cs.length = n) (hm : n + 1 ≤ 300) (hx : E x = .h 3 n 0 n) (hy : E y = .list 3 [encCoord c]) :
    OpS Tryz.prog (.call { callee := .builtin .append, args := #[x, y], argTypes := #[47, 47] }) E (mkI T mV m n cs dyn) (.h 3 (n + 1) 0 (n + 1)) (mkI T mV m (n + 1) (cs ++ [c]) dyn) := by
  have hM : (301 : Nat) ≤ maxLen := by decide
  have := op_append_h (P := Tryz.prog) (E := E) (st := mkI T mV m n cs dyn) 47 29 3 48 x y 3 n n (cs.map encCoord) [encCoord c] (tabOk.ap 47 _ rfl) hx rfl (by rw [hy]; exact Src.list) (by simp; omega) (by simp; omega)
  rw [List.take_of_length_le (by rw [List.length_map]; omega)] at this
  have e : mkI T mV m (n + 1) (cs ++ [c]) dyn = (mkI T mV m n cs dyn).set 3 (.row (n + 1) 29 3 (cs.map encCoord ++ [encCoord c])) := by simp [mkI]
  rw [e]
  exact this
theorem prj_val {c : Coord} (σ : Sig) (gh : List Value) (st : List AO) (v : Value) (h : RepA σ gh st v (.agg [dstr c.group, dstr c.name])) : v = kvP (prj c) := strs_val (l := ksP (prj c)) h

theorem GQ_op {P : Program} {N : Fm} {ops : Array Oper} {rest : List Oper} {env : Env} {st st' : List AO} {K : Env → List AO → Prop} {dst : Option Tmp} {op : Op} {ty : TypeId} {pos : String} {after : Array Edge} {v : AV} (hd : dOk N dst = true) (h1 : OpS P op (evalE env) st v st')
    (h : GQ P N ops rest (updO env dst v) st' K) : GQ P N ops (⟨dst, op, ty, pos, after, none⟩ :: rest) env st K := ⟨dOk_out hd, .inl ⟨rfl, h1.n h⟩⟩

theorem New_impl (ok : Coord → Bool) (hok : ∀ c, Impl Tryz.prog 29 [.agg (encCoord c)] [.one (dbool (ok c))]) (hsz : ∀ c, ok c = true → c.version.size ≤ 4194303) (l : List Item) :
    Impl Tryz.prog 8 [.one (dItems l)] [.one (if newE ok l = 0 then ixD l else .sc (.pointer none)), .one (dint (newE ok l))] := by
  refine impl_wp tabOk Tryz.func8 rfl rfl (by kernel_rfl) ?_
  refine WP_seq ?_
  refine vcc_sound _ _ _ tabOk (by exact rfl) ?_
  refine WP_scope_cut (α := {x : List Item × List Item // l = x.1 ++ x.2 ∧ newE ok l = newGo x.1 ok x.2 ∧ l.length ≤ 300 ∧ ∀ it ∈ x.1, it.coord.version.size ≤ 4194303}) 0 (fun x => ofL [(0, .d (dItems x.1.2)), (4, .ptr 2 0)]) (fun x => stI x.1.1) (fun x => x.1.2.length) (by rfl) ?_ (fun again => ?_)
  rotate_left
  · refine WP_seq ?_
    refine WP_seq ?_
    refine vcc_sound _ _ _ tabOk (by exact rfl) ?_
    refine vcc_sound _ _ _ tabOk (by exact rfl) ?_
    refine Br.mk (fun hb => ?_) (fun hb => ?_)
    · have hE : newE ok l = 3 := by unfold newE; rw [show decide ((l.length : Int) > 300) = true from hb]; rfl
      rw [hE]
      refine WP_seq ?_
      refine vcc_sound _ _ _ tabOk (by exact rfl) ?_
      refine WP_ret ?_
      exact ⟨DLe.refl _, DLe.refl _, trivial⟩
    have hlen : l.length ≤ 300 := by have : decide ((l.length : Int) > 300) = false := hb; have := of_decide_eq_false this; omega
    have hE : newE ok l = newGo [] ok l := by unfold newE; rw [show decide ((l.length : Int) > 300) = false from hb]; rfl
    refine WP_skip ?_
    refine WP_seq ?_
    refine WP_region ?_
    refine stepO rfl (op_makeMap 60) ?_
    refine stepO rfl (op_makeMap 61) ?_
    refine stepO rfl (op_buildP 63 _ [.sc (.map none), .sc (.map none), .nils] [.o 0, .o 1, .d .nils] [(0, 1), (1, 1), (2, 1)] (by kernel_rfl) (by kernel_rfl) rfl) ?_
    refine stepO rfl (op_boxP 63 _ [.o 0, .o 1, .d .nils] rfl) ?_
    refine stepW tabOk rfl ?_
    refine WPL_nil ?_
    refine WP_sub (Sub.nilsCell (s := 2) (i := 2) 29 3 rfl rfl) ?_
    exact again ⟨([], l), rfl, hE, hlen, fun it h => by cases h⟩ _ _ (Sub.ofL _ _ (Nat.zero_le _) ⟨rfl, rfl, rfl, rfl, trivial⟩ rfl rfl)
  rintro ⟨⟨d, rest⟩, hl, hE, hlen, hok2⟩
  dsimp only at hl hE hok2 ⊢
  refine WP_seq ?_
  refine WP_seq ?_
  refine vcc_sound _ _ _ tabOk (by exact rfl) ?_
  refine vcc_sound _ _ _ tabOk (by exact rfl) ?_
  refine Br.mk (fun hb => ?_) (fun hb => ?_)
  · have hr : rest = [] := by
      have : ((rest.length : Int) == 0) = true := hb
      have : rest.length = 0 := by simpa using this
      exact List.eq_nil_of_length_eq_zero this
    subst hr
    rw [List.append_nil] at hl
    subst hl
    have hE0 : newE ok l = 0 := by rw [hE]; rfl
    rw [hE0, if_pos rfl]
    have key := sortCoord_eff (l.map (·.coord)) (by rw [List.length_map]; omega) (fun c hc => by
      obtain ⟨it, hi, rfl⟩ := List.mem_map.1 hc
      exact hok2 it hi) (st := stI l) (s := 3) (k := l.length) (e := 29) rfl
    rw [List.length_map] at key
    refine WP_seq ?_
    refine vcc_sound _ _ _ tabOk (by exact rfl) ?_
    refine CallE.eff _ _ key ?_
    refine WP_seq ?_
    refine vcc_sound _ _ _ tabOk (by exact rfl) ?_
    refine WP_sub (sealI rfl l rfl rfl) ?_
    refine WP_ret ?_
    exact ⟨DLe.refl _, DLe.refl _, trivial⟩
  refine WP_skip ?_
  obtain ⟨it, rest, rfl⟩ : ∃ it r, rest = it :: r := by
    cases rest with
    | nil =>
      have : ((([] : List Item).length : Int) == 0) = false := hb
      simp at this
    | cons it r => exact ⟨it, r, rfl⟩
  refine WP_seq ?_
  refine WP_region ?_
  refine stepW tabOk rfl ?_
  refine stepW tabOk rfl ?_
  refine Ob.mk (by exact ⟨by simp, by simp⟩) ?_
  refine stepW tabOk rfl ?_
  refine stepW tabOk rfl ?_
  refine stepO rfl (op_alloc 29 _ (tabOk.zb 29 _ rfl)) ?_
  refine stepO rfl (op_store_ptr 29 (.tmp 5) (.tmp 28) 3 (stI d).length 0 (encCoord it.coord) [.str emp, .str emp, .str emp] (tabOk.ld 29 _ rfl) rfl rfl List.getElem?_concat_length rfl (by decide)) ?_
  refine WPL_nil ?_
  refine WP_sub (Sub.shutPtr 5 (stI d).length (ds := encCoord it.coord) rfl (by rw [List.getElem?_set_self (by simp)]; rfl)) ?_
  refine WP_sub (keepI rfl d [(0, .d (dItems (it :: rest))), (4, .ptr 2 0), (5, .d (.ref (encCoord it.coord)))] (by simp) ⟨rfl, rfl, rfl, rfl, rfl, rfl, trivial⟩) ?_
  refine WP_seq ?_
  refine WP_seq ?_
  refine vcc_sound _ _ _ tabOk (by exact rfl) ?_
  refine CallD.mk _ _ (hok it.coord) (by exact ⟨DLe.refl _, trivial⟩) ?_
  refine vcc_sound _ _ _ tabOk (by exact rfl) ?_
  refine Br.mk (fun hb => ?_) (fun hb => ?_)
  · have hbo : ok it.coord = false := by cases h : ok it.coord with | false => rfl | true => exact absurd hb (by rw [h]; decide)
    have hE1 : newE ok l = 1 := by rw [hE, newGo, hbo]; rfl
    rw [hE1]
    refine WP_seq ?_
    refine vcc_sound _ _ _ tabOk (by exact rfl) ?_
    refine WP_ret ?_
    exact ⟨DLe.refl _, DLe.refl _, trivial⟩
  have hbo : ok it.coord = true := by cases h : ok it.coord with | true => rfl | false => exact absurd hb (by rw [h]; decide)
  refine WP_skip ?_
  refine WP_seq ?_
  refine WP_seq ?_
  refine WP_draw3 11 (List.replicate 11 false) [stI d] tabOk.mixed (by kernel_rfl) rfl ?_
  have hin : ∀ s ∈ [stI d], s = stI d := fun s hs => by simpa using hs
  refine WT_puk tabOk rfl rfl (PuK.mk _ (fun st => ⟨rfl, rfl⟩) ?_)
  refine WT_puk tabOk rfl rfl (PuK.mk _ (fun st => ⟨rfl, rfl⟩) ?_)
  refine WT_puk tabOk rfl rfl (PuK.mk _ (fun st => ⟨rfl, rfl⟩) ?_)
  refine WT_pure rfl rfl (fun s hs => by rw [hin s hs]; exact op_load_ptr1 60 (.tmp 35) 1 2 0 (.omap 0) (cellsI d.length) (tabOk.ld 60 _ rfl) rfl rfl rfl) ?_
  refine WT_puk tabOk rfl rfl (PuK.mk _ (fun st => ⟨rfl, rfl⟩) ?_)
  refine WT_pure rfl rfl (fun s hs => by rw [hin s hs]; exact op_lookupG2 60 (.tmp 36) (.tmp 37) 0 (textT d) it.coord keyC mapTC _ (lookT_eq _ d) rfl rfl ref_val) ?_
  refine WT_puk tabOk rfl rfl (PuK.mk _ (fun st => ⟨rfl, rfl⟩) ?_)
  refine WT_puk tabOk rfl rfl (PuK.mk _ (fun st => ⟨rfl, rfl⟩) ?_)
  refine WT_puk tabOk rfl rfl (PuK.mk _ (fun st => ⟨rfl, rfl⟩) ?_)
  refine WT_puk tabOk rfl rfl (PuK.mk _ (fun st => ⟨rfl, rfl⟩) ?_)
  refine WT_puk tabOk rfl rfl (PuK.mk _ (fun st => ⟨rfl, rfl⟩) ?_)
  intro s hs
  obtain rfl : stI d = s := by simpa using hs
  refine WP_seq ?_
  refine vcc_sound _ _ _ tabOk (by exact rfl) ?_
  refine vcc_sound _ _ _ tabOk (by exact rfl) ?_
  refine Br.mk (fun hb => ?_) (fun hb => ?_)
  · have hb : (fndM it.coord (textT d)).isSome = true := hb
    have hE1 : newE ok l = 9 := by rw [hE, newGo, hbo, hb]; rfl
    rw [hE1]
    refine WP_seq ?_
    refine vcc_sound _ _ _ tabOk (by exact rfl) ?_
    refine WP_ret ?_
    exact ⟨DLe.refl _, DLe.refl _, trivial⟩
  have hnone : fndM it.coord (textT d) = none := by
    have hb : (fndM it.coord (textT d)).isSome = false := hb
    cases h : fndM it.coord (textT d) with
    | none => rfl
    | some _ => rw [h] at hb; cases hb
  refine WP_skip ?_
  refine WP_seq ?_
  refine WP_region ?_
  refine stepW tabOk rfl ?_
  refine stepW tabOk rfl ?_
  refine stepW tabOk rfl ?_
  refine stepW tabOk rfl ?_
  refine stepW tabOk rfl ?_
  refine stepO rfl (op_alloc 68 _ (tabOk.zb 68 _ rfl)) ?_
  refine stepO rfl (op_store_ptr 68 (.tmp 8) (.tmp 46) 2 (stI d).length 0 [dstr it.coord.group, dstr it.coord.name] [.str emp, .str emp] (tabOk.ld 68 _ rfl) rfl rfl List.getElem?_concat_length rfl (by decide)) ?_
  refine WPL_nil ?_
  refine WP_sub (Sub.shutPtr 8 (stI d).length (ds := [dstr it.coord.group, dstr it.coord.name]) rfl (by rw [List.getElem?_set_self (by simp)]; rfl)) ?_
  refine WP_sub (keepI rfl d [(0, .d (dItems (it :: rest))), (4, .ptr 2 0), (5, .d (.ref (encCoord it.coord))), (8, .d (.ref [dstr it.coord.group, dstr it.coord.name]))] (by simp) ⟨rfl, rfl, rfl, rfl, rfl, rfl, rfl, rfl, trivial⟩) ?_
  refine WP_seq ?_
  have hd3 : d.length + 1 ≤ 300 := by rw [hl] at hlen; simp at hlen; omega
  have happ : ∀ {E : Operand → AV} (x y : Operand), E x = lookM .nils (prj it.coord) (vmp 4 (versOf (d.map (·.coord)))) → E y = .list 1 [[dstr it.coord.version]] → OpS Tryz.prog _ E _ _ _ := fun {E} x y hx hy => appV (d.map (·.coord)) (by rw [List.length_map]; omega) x y (textT d) (vmp 4 (versOf (d.map (·.coord)))) d.length d.length (d.map (·.coord)) (prj it.coord) it.coord.version hx hy
  have hsn : versOf (d.map (·.coord) ++ [it.coord]) = updM (prj it.coord) (lookM [] (prj it.coord) (versOf (d.map (·.coord))) ++ [it.coord.version]) (versOf (d.map (·.coord))) := versOf_snoc _ _
  have hst0 : stI d = mkI (textT d) (vmp 4 (versOf (d.map (·.coord)))) d.length d.length (d.map (·.coord)) (dynV (versOf (d.map (·.coord)))) := rfl
  have hst1 : stI (d ++ [it]) = mkI (textT d ++ [(it.coord, AV.d (dstr it.text))]) (vmp 4 (versOf (d.map (·.coord) ++ [it.coord]))) (d.length + 1) (d.length + 1) (d.map (·.coord) ++ [it.coord]) (dynV (versOf (d.map (·.coord) ++ [it.coord]))) := by
    unfold stI mkI textT
    simp only [List.map_append, List.map_cons, List.map_nil, List.length_append, List.length_cons, List.length_nil]
  rw [hsn] at hst1
  rw [hst0]
  generalize versOf (d.map (·.coord)) = V at happ hst1 ⊢
  generalize lookM [] (prj it.coord) V ++ [it.coord.version] = A at happ hst1 ⊢
  obtain ⟨z1, hz1⟩ := ent_get it.coord (textT d) (AV.str emp)
  obtain ⟨z2, hz2⟩ := ent_get (prj it.coord) (vmp 4 V) AV.nils
  have hok6 : okSingle (mkI ((entM (AV.str emp) it.coord (textT d)).set (idxM it.coord (textT d)) (it.coord, AV.d (dstr it.text))) (entM AV.nils (prj it.coord) (vmp 4 V)) d.length (d.length + 1) (d.map (·.coord) ++ [it.coord]) (dynV (updM (prj it.coord) A V))) (hndV (4 + idxM' (prj it.coord) V) A) := by
    refine ⟨9, 1, A.map encStr, ?_⟩
    rw [Nat.add_comm 4]
    show (dynV (updM (prj it.coord) A V))[idxM' (prj it.coord) V]? = _
    rw [dynV, List.getElem?_map, upd_get]
    rfl
  refine WP_draw3 38 [false, false, false, false, false, false, false, false, false, false, false, false, false, false, false, false, false, false, false, false, true, false, false, false, true, false, false, false, false, false, false, true, true, false, true, true, false, true] [(mkI (textT d) (vmp 4 V) d.length d.length (d.map (·.coord)) (dynV V)), (mkI (textT d) (vmp 4 V) d.length d.length (d.map (·.coord)) (dynV V)), (mkI (textT d) (vmp 4 V) d.length d.length (d.map (·.coord)) (dynV (updM (prj it.coord) A V))), (mkI (textT d) (vmp 4 V) d.length (d.length + 1) (d.map (·.coord) ++ [it.coord]) (dynV (updM (prj it.coord) A V))), (mkI (entM (AV.str emp) it.coord (textT d)) (vmp 4 V) d.length (d.length + 1) (d.map (·.coord) ++ [it.coord]) (dynV (updM (prj it.coord) A V))), (mkI ((entM (AV.str emp) it.coord (textT d)).set (idxM it.coord (textT d)) (it.coord, AV.d (dstr it.text))) (vmp 4 V) d.length (d.length + 1) (d.map (·.coord) ++ [it.coord]) (dynV (updM (prj it.coord) A V))), (mkI ((entM (AV.str emp) it.coord (textT d)).set (idxM it.coord (textT d)) (it.coord, AV.d (dstr it.text))) (entM AV.nils (prj it.coord) (vmp 4 V)) d.length (d.length + 1) (d.map (·.coord) ++ [it.coord]) (dynV (updM (prj it.coord) A V))), (mkI ((entM (AV.str emp) it.coord (textT d)).set (idxM it.coord (textT d)) (it.coord, AV.d (dstr it.text))) ((entM AV.nils (prj it.coord) (vmp 4 V)).set (idxM (prj it.coord) (vmp 4 V)) (prj it.coord, hndV (4 + idxM' (prj it.coord) V) A)) d.length (d.length + 1) (d.map (·.coord) ++ [it.coord]) (dynV (updM (prj it.coord) A V)))] tabOk.mixed (by kernel_rfl) rfl ?_
  have hs2 : ∀ s ∈ [(mkI (textT d) (vmp 4 V) d.length d.length (d.map (·.coord)) (dynV V)), (mkI (textT d) (vmp 4 V) d.length d.length (d.map (·.coord)) (dynV V)), (mkI (textT d) (vmp 4 V) d.length d.length (d.map (·.coord)) (dynV (updM (prj it.coord) A V))), (mkI (textT d) (vmp 4 V) d.length (d.length + 1) (d.map (·.coord) ++ [it.coord]) (dynV (updM (prj it.coord) A V))), (mkI (entM (AV.str emp) it.coord (textT d)) (vmp 4 V) d.length (d.length + 1) (d.map (·.coord) ++ [it.coord]) (dynV (updM (prj it.coord) A V))), (mkI ((entM (AV.str emp) it.coord (textT d)).set (idxM it.coord (textT d)) (it.coord, AV.d (dstr it.text))) (vmp 4 V) d.length (d.length + 1) (d.map (·.coord) ++ [it.coord]) (dynV (updM (prj it.coord) A V))), (mkI ((entM (AV.str emp) it.coord (textT d)).set (idxM it.coord (textT d)) (it.coord, AV.d (dstr it.text))) (entM AV.nils (prj it.coord) (vmp 4 V)) d.length (d.length + 1) (d.map (·.coord) ++ [it.coord]) (dynV (updM (prj it.coord) A V))), (mkI ((entM (AV.str emp) it.coord (textT d)).set (idxM it.coord (textT d)) (it.coord, AV.d (dstr it.text))) ((entM AV.nils (prj it.coord) (vmp 4 V)).set (idxM (prj it.coord) (vmp 4 V)) (prj it.coord, hndV (4 + idxM' (prj it.coord) V) A)) d.length (d.length + 1) (d.map (·.coord) ++ [it.coord]) (dynV (updM (prj it.coord) A V)))], s[2]? = some (.box 63 (cellsI d.length)) := by
    intro s hs
    simp only [List.mem_cons, List.not_mem_nil, or_false] at hs
    rcases hs with rfl | rfl | rfl | rfl | rfl | rfl | rfl | rfl <;> rfl
  refine WT_puk tabOk rfl rfl (PuK.mk _ (fun st => ⟨rfl, rfl⟩) ?_)
  refine WT_puk tabOk rfl rfl (PuK.mk _ (fun st => ⟨rfl, rfl⟩) ?_)
  refine WT_puk tabOk rfl rfl (PuK.mk _ (fun st => ⟨rfl, rfl⟩) ?_)
  refine WT_pure rfl rfl (fun s hs => op_load_ptr1 60 (.tmp 49) 1 2 0 (.omap 0) (cellsI d.length) (tabOk.ld 60 _ rfl) rfl (hs2 s hs) rfl) ?_
  refine WT_puk tabOk rfl rfl (PuK.mk _ (fun st => ⟨rfl, rfl⟩) ?_)
  refine WT_puk tabOk rfl rfl (PuK.mk _ (fun st => ⟨rfl, rfl⟩) ?_)
  refine WT_puk tabOk rfl rfl (PuK.mk _ (fun st => ⟨rfl, rfl⟩) ?_)
  refine WT_puk tabOk rfl rfl (PuK.mk _ (fun st => ⟨rfl, rfl⟩) ?_)
  refine WT_pure rfl rfl (fun s hs => op_load_ptr1 61 (.tmp 54) 1 2 1 (.omap 1) (cellsI d.length) (tabOk.ld 61 _ rfl) rfl (hs2 s hs) rfl) ?_
  refine WT_puk tabOk rfl rfl (PuK.mk _ (fun st => ⟨rfl, rfl⟩) ?_)
  refine WT_puk tabOk rfl rfl (PuK.mk _ (fun st => ⟨rfl, rfl⟩) ?_)
  refine WT_puk tabOk rfl rfl (PuK.mk _ (fun st => ⟨rfl, rfl⟩) ?_)
  refine WT_puk tabOk rfl rfl (PuK.mk _ (fun st => Ob.mk ⟨by simp, by simp⟩ ⟨rfl, rfl⟩) ?_)
  refine WT_puk tabOk rfl rfl (PuK.mk _ (fun st => ⟨rfl, rfl⟩) ?_)
  refine WT_puk tabOk rfl rfl (PuK.mk _ (fun st => ⟨rfl, rfl⟩) ?_)
  refine WT_puk tabOk rfl rfl (PuK.mk _ (fun st => ⟨rfl, rfl⟩) ?_)
  refine WT_puk tabOk rfl rfl (PuK.mk _ (fun st => ⟨rfl, rfl⟩) ?_)
  refine WT_puk tabOk rfl rfl (PuK.mk _ (fun st => ⟨rfl, rfl⟩) ?_)
  refine WT_pure rfl rfl (fun s hs => op_load_ptr1 61 (.tmp 64) 1 2 1 (.omap 1) (cellsI d.length) (tabOk.ld 61 _ rfl) rfl (hs2 s hs) rfl) ?_
  refine WT_puk tabOk rfl rfl (PuK.mk _ (fun st => ⟨rfl, rfl⟩) ?_)
  refine WT_turn rfl (s := (mkI (textT d) (vmp 4 V) d.length d.length (d.map (·.coord)) (dynV V))) (s' := (mkI (textT d) (vmp 4 V) d.length d.length (d.map (·.coord)) (dynV V))) rfl rfl rfl (op_lookupG 61 (.tmp 65) (.tmp 66) 1 (vmp 4 V) (prj it.coord) keyP mapTP rfl rfl prj_val) ?_
  refine WT_puk tabOk rfl rfl (PuK.mk _ (fun st => ⟨rfl, rfl⟩) ?_)
  refine WT_puk tabOk rfl rfl (PuK.mk _ (fun st => ⟨rfl, rfl⟩) ?_)
  refine WT_puk tabOk rfl rfl (PuK.mk (.list 1 [[dstr it.coord.version]]) (fun st => NewS.list ⟨rfl, rfl⟩) ?_)
  refine WT_turn rfl (s := (mkI (textT d) (vmp 4 V) d.length d.length (d.map (·.coord)) (dynV V))) (s' := (mkI (textT d) (vmp 4 V) d.length d.length (d.map (·.coord)) (dynV (updM (prj it.coord) A V)))) rfl rfl rfl (happ (.tmp 67) (.tmp 70) rfl rfl) ?_
  refine WT_puk tabOk rfl rfl (PuK.mk _ (fun st => ⟨rfl, rfl⟩) ?_)
  refine WT_puk tabOk rfl rfl (PuK.mk _ (fun st => ⟨rfl, rfl⟩) ?_)
  refine WT_puk tabOk rfl rfl (PuK.mk _ (fun st => ⟨rfl, rfl⟩) ?_)
  refine WT_pure rfl rfl (fun s hs => op_load_ptr1 47 (.tmp 74) 1 2 2 (.h 3 d.length 0 d.length) (cellsI d.length) (tabOk.ld 47 _ rfl) rfl (hs2 s hs) rfl) ?_
  refine WT_puk tabOk rfl rfl (PuK.mk _ (fun st => ⟨rfl, rfl⟩) ?_)
  refine WT_puk tabOk rfl rfl (PuK.mk (.list 3 [encCoord it.coord]) (fun st => NewS.list ⟨rfl, rfl⟩) ?_)
  refine WT_turn rfl (s := (mkI (textT d) (vmp 4 V) d.length d.length (d.map (·.coord)) (dynV (updM (prj it.coord) A V)))) (s' := (mkI (textT d) (vmp 4 V) d.length (d.length + 1) (d.map (·.coord) ++ [it.coord]) (dynV (updM (prj it.coord) A V)))) rfl rfl rfl (appCo (.tmp 75) (.tmp 77) _ _ _ _ _ it.coord _ (by simp) hd3 rfl rfl) ?_
  refine WT_turn rfl (s := (mkI (textT d) (vmp 4 V) d.length (d.length + 1) (d.map (·.coord) ++ [it.coord]) (dynV (updM (prj it.coord) A V)))) (s' := (mkI (entM (AV.str emp) it.coord (textT d)) (vmp 4 V) d.length (d.length + 1) (d.map (·.coord) ++ [it.coord]) (dynV (updM (prj it.coord) A V)))) rfl rfl rfl (op_mapEntryG 60 (.tmp 50) (.tmp 51) 0 (textT d) it.coord keyC mapTC rfl rfl ref_val) ?_
  refine WT_puk tabOk rfl rfl (PuK.mk _ (fun st => ⟨rfl, rfl⟩) ?_)
  refine WT_turn rfl (s := (mkI (entM (AV.str emp) it.coord (textT d)) (vmp 4 V) d.length (d.length + 1) (d.map (·.coord) ++ [it.coord]) (dynV (updM (prj it.coord) A V)))) (s' := (mkI ((entM (AV.str emp) it.coord (textT d)).set (idxM it.coord (textT d)) (it.coord, AV.d (dstr it.text))) (vmp 4 V) d.length (d.length + 1) (d.map (·.coord) ++ [it.coord]) (dynV (updM (prj it.coord) A V)))) rfl rfl rfl (op_entryStoreG 60 (.tmp 50) (.tmp 80) (.tmp 61) 0 (entM (AV.str emp) it.coord (textT d)) it.coord (idxM it.coord (textT d)) z1 keyC rfl rfl rfl hz1 rfl) ?_
  refine WT_turn rfl (s := (mkI ((entM (AV.str emp) it.coord (textT d)).set (idxM it.coord (textT d)) (it.coord, AV.d (dstr it.text))) (vmp 4 V) d.length (d.length + 1) (d.map (·.coord) ++ [it.coord]) (dynV (updM (prj it.coord) A V)))) (s' := (mkI ((entM (AV.str emp) it.coord (textT d)).set (idxM it.coord (textT d)) (it.coord, AV.d (dstr it.text))) (entM AV.nils (prj it.coord) (vmp 4 V)) d.length (d.length + 1) (d.map (·.coord) ++ [it.coord]) (dynV (updM (prj it.coord) A V)))) rfl rfl rfl (op_mapEntryG 61 (.tmp 55) (.tmp 56) 1 (vmp 4 V) (prj it.coord) keyP mapTP rfl rfl prj_val) ?_
  refine WT_puk tabOk rfl rfl (PuK.mk _ (fun st => ⟨rfl, rfl⟩) ?_)
  refine WT_turn rfl (s := (mkI ((entM (AV.str emp) it.coord (textT d)).set (idxM it.coord (textT d)) (it.coord, AV.d (dstr it.text))) (entM AV.nils (prj it.coord) (vmp 4 V)) d.length (d.length + 1) (d.map (·.coord) ++ [it.coord]) (dynV (updM (prj it.coord) A V)))) (s' := (mkI ((entM (AV.str emp) it.coord (textT d)).set (idxM it.coord (textT d)) (it.coord, AV.d (dstr it.text))) ((entM AV.nils (prj it.coord) (vmp 4 V)).set (idxM (prj it.coord) (vmp 4 V)) (prj it.coord, hndV (4 + idxM' (prj it.coord) V) A)) d.length (d.length + 1) (d.map (·.coord) ++ [it.coord]) (dynV (updM (prj it.coord) A V)))) rfl rfl rfl (op_entryStoreG 61 (.tmp 55) (.tmp 82) (.tmp 71) 1 (entM AV.nils (prj it.coord) (vmp 4 V)) (prj it.coord) (idxM (prj it.coord) (vmp 4 V)) z2 keyP rfl rfl rfl hz2 hok6) ?_
  intro s hs
  obtain rfl : (mkI ((entM (AV.str emp) it.coord (textT d)).set (idxM it.coord (textT d)) (it.coord, AV.d (dstr it.text))) ((entM AV.nils (prj it.coord) (vmp 4 V)).set (idxM (prj it.coord) (vmp 4 V)) (prj it.coord, hndV (4 + idxM' (prj it.coord) V) A)) d.length (d.length + 1) (d.map (·.coord) ++ [it.coord]) (dynV (updM (prj it.coord) A V))) = s := by simpa using hs
  refine GQ_op rfl (op_nilCheck_ptr (.tmp 57) 2 0 rfl) ?_
  refine GQ_op rfl (op_fieldAddr_ptr 63 (.tmp 83) 2 2 0 2 (tabOk.fo 63 2 _ rfl) rfl) ?_
  refine GQ_op rfl (op_store_ptr1 47 (.tmp 84) (.tmp 78) 2 (0 + 2) (.h 3 (d.length + 1) 0 (d.length + 1)) (cellsI d.length) (tabOk.ld 47 _ rfl) rfl rfl rfl ⟨29, 3, _, rfl⟩ (by show 2 < 3; decide)) ?_
  have hfin : ((mkI ((entM (AV.str emp) it.coord (textT d)).set (idxM it.coord (textT d)) (it.coord, AV.d (dstr it.text))) ((entM AV.nils (prj it.coord) (vmp 4 V)).set (idxM (prj it.coord) (vmp 4 V)) (prj it.coord, hndV (4 + idxM' (prj it.coord) V) A)) d.length (d.length + 1) (d.map (·.coord) ++ [it.coord]) (dynV (updM (prj it.coord) A V)))).set 2 (.box 63 ((cellsI d.length).take (0 + 2) ++ [.h 3 (d.length + 1) 0 (d.length + 1)] ++ (cellsI d.length).drop (0 + 2 + 1))) = stI (d ++ [it]) := by
    rw [hst1, ent_upd, ent_upd, updV, (fndM_none (z := AV.str emp) (d := AV.d (dstr it.text)) hnone).2.1]
    rfl
  rw [hfin]
  refine WP_seq ?_
  refine vcc_sound _ _ _ tabOk (by exact rfl) ?_
  refine Ob.mk (by decide) ?_
  refine Ob.mk (by show 1 ≤ (it :: rest).length; simp) ?_
  refine WP_goto ?_
  refine ⟨rfl, ⟨(d ++ [it], rest), by rw [hl]; simp, ?_, hlen, fun x hx => ?_⟩, by show rest.length < (it :: rest).length; simp, keepI rfl (d ++ [it]) [(0, .d (dItems rest)), (4, .ptr 2 0)] (List.take_length ..) ⟨rfl, rfl, rfl, rfl, trivial⟩⟩
  · rw [hE, newGo, hbo, hnone]; rfl
  · rcases List.mem_append.1 hx with h | h
    · exact hok2 x h
    · have : x = it := by simpa using h
      subst this
      exact hsz _ hbo
end Go.Proofs.Nw.K
end
section
/- K35: the bytes of a string, as data; the library's IndexByteString. -/
open Go Go.RowKit
set_option linter.unusedVariables false
set_option linter.unusedSimpArgs false
namespace Go.Proofs.Nw.K

/-- bytes of one's own are given out -/
theorem seal_brow {w0 : World} {σ0 σ gh st w} (hb : Base w0 σ0 σ gh st w) {s e b : Nat} {ns : List Int} (hst : st[s]? = some (.brow e ns)) (hg : gh[s]? = some (.pointer (some ⟨b, 0, none⟩))) :
    ∃ σ', Fut w0 σ0 σ gh st σ' gh (st.set s .gone) w ∧ ∀ (i : Nat) n, ns[i]? = some n → σ'.cell b i = some (.int .u8 n) := by
  obtain ⟨vals, fz, e2, e3, e4, e5, e6, hu⟩ := brow_cells hb hst hg
  have keep0 : ∀ v a, RepA σ gh st v a → RepA σ gh (st.set s .gone) v a := fun v a h => h.set hst _ (fun _ _ _ _ h => by cases h)
  have hslt : s < st.length := (List.getElem?_eq_some_iff.1 hst).1
  have hle := Sig.le_seal hu (vals.toList.take ns.length)
  have hcell : ∀ (i : Nat) n, ns[i]? = some n → (vals.toList.take ns.length)[i]? = some (.int .u8 n) := fun i n hn => by
    have hi : i < ns.length := (List.getElem?_eq_some_iff.1 hn).1
    rw [List.getElem?_take_of_lt hi, Array.getElem?_toList]
    exact e6 i n hn
  have keep : ∀ v a, RepA σ gh st v a → RepA (σ.shut b (vals.toList.take ns.length)) gh (st.set s .gone) v a := fun v a h => (keep0 v a h).sig hle
  refine ⟨σ.shut b (vals.toList.take ns.length), ⟨⟨hb.below, fun b' h => ?_, ⟨fun b' o v hv => ?_, hb.sl.obj⟩, by simp [hb.len], hb.sep, hb.lt, fun t o1 g1 h1 h2 => ?_⟩, keep⟩, fun i n hn => ?_⟩
  · have : b' ≠ b := by omega
    have := hb.ext b' h
    exact ⟨by funext o; simp only [Sig.shut]; rw [if_neg ‹_›]; exact congrFun this.1 o, this.2⟩
  · simp only [Sig.shut] at hv
    split at hv
    · rename_i e'; subst e'
      have ho : o < ns.length := by
        have := (List.getElem?_eq_some_iff.1 hv).1
        rw [List.length_take] at this; omega
      have h1 := hcell o ns[o] (List.getElem?_eq_getElem ho)
      rw [hv] at h1
      cases h1
      refine ⟨?_, rfl⟩
      rw [cell_of_row w b' o vals e fz e3]
      have := e6 o ns[o] (List.getElem?_eq_getElem ho)
      simpa using this
    · exact hb.sl.cell b' o v hv
  · rw [List.getElem?_set] at h1
    split at h1
    · simp [hslt] at h1; subst h1; trivial
    · rename_i hne
      refine (hb.obj t o1 g1 h1 h2).sig hle (fun b' hbk hu' => hu'.shut ?_ _) keep
      intro e'; subst e'
      exact hb.sep s t b' hne (by rw [hg]; simp [blkOf]) (by rw [h2]; exact hbk)
  · simp only [Sig.shut, if_true]
    exact hcell i n hn

def encByte (n : Int) : List D := [.sc (.int .u8 n)]
section
variable {P : Program} {E : Operand → AV} {st : List AO}
theorem op_str2bytesD (s d e : TypeId) (x : Operand) (str : ByteArray) (hs : P.underlying s = some .string) (hd : P.underlying d = some (.slice e)) (he : P.underlying e = some (.int .u8)) (hx : E x = .str str) (h0 : 0 < str.size) (hm : str.size ≤ maxLen) :
    OpS P (.convert s d x) E st (.d (.tl Int 1 encByte 0 (bytesI str))) (st ++ [.gone]) := by
  intro o ho w0 σ0 σ gh ρ w hb hρ
  have h1 := hρ x (by simp [Op.operands])
  rw [hx] at h1
  have h1 := RepA_sc h1
  have hrun : (execOp ρ o).run P w = .ok (.value (.slice (some ⟨w.heap.size, 0, none⟩) str.size (grownCap w str.size 0 e))) (Lib.bytesWorld w e str) := by
    simp [execOp, ho, h1, Lib.run_convert_string_bytes w s d e str hs hd he]
  rw [hrun]
  have hg : w.grownBy (Lib.bytesWorld w e str) none := ⟨rfl, rfl, rfl, by rw [Lib.bytesWorld_size]; omega, fun k hk _ => Lib.bytesWorld_at_old w e str k hk⟩
  have hf := hb.push hg (.pointer (some ⟨w.heap.size, 0, none⟩)) (.brow e (bytesI str)) (fun b hb' => by simp [blkOf] at hb'; subst hb'; rw [Lib.bytesWorld_size]; omega)
    ⟨w.heap.size, Lib.bytesCells w e str, _, rfl, hb.below.size, Lib.bytesWorld_at_new w e str, Nat.le_refl _, by rw [bytesI_length]; simp [Lib.bytesCells], fun i n hn => by
      simp only [bytesI, List.getElem?_map, Option.map_eq_some_iff] at hn
      obtain ⟨c, hc, rfl⟩ := hn
      have hi : i < str.data.size := by simpa using (List.getElem?_eq_some_iff.1 hc).1
      simp only [Lib.bytesCells, Array.getElem?_append, Array.size_map, hi, if_true, Array.getElem?_map]
      simp only [Array.getElem?_toList] at hc
      simp [hc], hb.sl.fresh (Nat.le_refl _)⟩
  obtain ⟨σ', hf2, hc⟩ := seal_brow hf.base (s := st.length) (e := e) (b := w.heap.size) (ns := bytesI str) (by simp) (by rw [← hb.len]; simp)
  have e1 : (st ++ [AO.brow e (bytesI str)]).set st.length .gone = st ++ [.gone] := by simp
  rw [e1] at hf2
  have hl := bytesI_length str
  refine ⟨σ', _, ⟨hf2.base, fun v a h => hf2.keep _ _ (hf.keep _ _ h)⟩, ?_⟩
  refine Rep.tl (Rep.list (fun i _ => .int .u8 ((bytesI str).getD i 0)) (by simp [hl]) h0 (grownCap_ge w _ _ _) (grownCap_le_maxLen w _ _ _ hm) (fun i x hx => ?_) (fun i j hi hj => ?_) (fun i j x d hx hd => ?_))
  · simp only [List.getElem?_map, Option.map_eq_some_iff] at hx
    obtain ⟨n, _, rfl⟩ := hx
    rfl
  · have hi' : i < (bytesI str).length := by omega
    have := hc i (bytesI str)[i] (List.getElem?_eq_getElem hi')
    rw [show 0 + i * 1 + j = i by omega, this]
    simp [hi']
  · simp only [List.getElem?_map, Option.map_eq_some_iff] at hx
    obtain ⟨n, hn, rfl⟩ := hx
    have hj : j = 0 := by
      have := (List.getElem?_eq_some_iff.1 hd).1
      simp [encByte] at this; omega
    subst hj
    simp [encByte] at hd
    subst hd
    have : (bytesI str).getD i 0 = n := by simp [hn]
    rw [this]
    exact Rep.sc rfl

theorem op_idxByte (x a b : Operand) (ts : Array TypeId) (f : FuncId) (fn : Func) (hfn : P.funcs[f]? = some fn) (hname : (fn.name == "runtime.NumGoroutine") = false) (hbo : fn.body.isNone = true) (hn : Extern.findNext fn = none) (hext : Extern.find fn = some Extern.BytealgIndexByte.indexByte)
    (s : ByteArray) (c : Int) (hx : E x = fnAV f) (ha : E a = .str s) (hbb : E b = .d (.sc (.int .u8 c))) :
    OpS P (.call { callee := .value x, args := #[a, b], argTypes := ts }) E st (.int (Lib.indexByte s.data.toList c.toNat.toUInt8)) st :=
  op_pure fun o ho w0 σ0 σ gh ρ w hb hρ => by
    have h1 := hρ x (by simp [Op.operands, Call.operands])
    have h2 := hρ a (by simp [Op.operands, Call.operands])
    have h3 := hρ b (by simp [Op.operands, Call.operands])
    rw [hx] at h1
    rw [ha] at h2
    rw [hbb] at h3
    have h1 := RepA_sc h1
    have h2 := RepA_sc h2
    have h3 := RepA_sc h3
    refine ⟨_, ?_, RepA_of_sc rfl⟩
    simp only [execOp, ho, resolve, h1, Deferred.ofValue, Sem.run_bind, Sem.run_pure, Result.andThen_ok, invoke]
    have : #[] ++ Array.map ρ #[a, b] ++ #[] = #[.string s, .int .u8 c] := by simp [h2, h3]
    rw [this, run_callFunc_extern hfn hname hbo hn hext, Lib.run_indexByteString]
    rfl
end
end Go.Proofs.Nw.K
end
section
/- QI4: what may be a coord. -/
open Go Go.RowKit Go.Proofs
set_option linter.unusedVariables false
set_option linter.unusedSimpArgs false
set_option maxHeartbeats 1000000
namespace Go.Proofs.Nw.K

def idxB (s : Str) (c : Int) : Int := Lib.indexByte s.data.toList c.toNat.toUInt8
theorem IndexByte_impl (s : Str) (c : Int) : Impl Tryz.prog 117 [.one (dstr s), .one (dbyte c)] [.one (dint (idxB s c))] := by
  refine impl_wp tabOk Tryz.func117 rfl rfl (by kernel_rfl) ?_
  refine WP_seq ?_
  refine vcc_sound _ _ _ tabOk (by exact rfl) ?_
  refine WP_seq ?_
  refine WP_region ?_
  refine stepW tabOk rfl ?_
  refine stepW tabOk rfl ?_
  refine stepO rfl (op_idxByte (.func 133) (.tmp 5) (.tmp 6) _ 133 _ Tryz.func133 (by kernel_rfl) (by kernel_rfl) (by kernel_rfl) (by kernel_rfl) s c rfl rfl rfl) ?_
  refine stepW tabOk rfl ?_
  refine WPL_nil ?_
  refine WP_ret ?_
  exact ⟨DLe.refl _, trivial⟩
theorem SIndexByte_impl (s : Str) (c : Int) : Impl Tryz.prog 89 [.one (dstr s), .one (dbyte c)] [.one (dint (idxB s c))] := by
  refine impl_wp tabOk Tryz.func89 rfl rfl (by kernel_rfl) ?_
  refine WP_seq ?_
  refine vcc_sound _ _ _ tabOk (by exact rfl) ?_
  refine WP_seq ?_
  refine vcc_sound _ _ _ tabOk (by exact rfl) ?_
  refine CallD.mk _ _ (IndexByte_impl s c) (by exact ⟨DLe.refl _, DLe.refl _, trivial⟩) ?_
  refine WP_ret ?_
  exact ⟨DLe.refl _, trivial⟩
def brk : Str := ⟨#[91, 93, 40, 41, 44]⟩
def badB (c : Int) : Bool := bif decide (c < 33) then true else bif decide (c > 126) then true else decide (idxB brk c ≥ 0)
theorem Right1_impl (c : Int) : Impl Tryz.prog 88 [.one (dbyte c)] [.one (dbool (badB c))] := by
  refine impl_wp tabOk Tryz.func88 rfl rfl (by kernel_rfl) ?_
  refine WP_seq ?_
  refine vcc_sound _ _ _ tabOk (by exact rfl) ?_
  refine WP_seq ?_
  refine vcc_sound _ _ _ tabOk (by exact rfl) ?_
  refine Br.mk (fun hb => ?_) (fun hb => ?_)
  · have e : badB c = true := by unfold badB; rw [show decide (c < 33) = true from hb]; rfl
    rw [e]
    repeat (first | refine Br.t ?_ | refine Br.f ?_)
    refine WP_ret ?_
    exact ⟨DLe.refl _, trivial⟩
  repeat (first | refine Br.t ?_ | refine Br.f ?_)
  refine Br.mk (fun hb2 => ?_) (fun hb2 => ?_)
  · have e : badB c = true := by unfold badB; rw [show decide (c < 33) = false from hb, show decide (c > 126) = true from hb2]; rfl
    rw [e]
    repeat (first | refine Br.t ?_ | refine Br.f ?_)
    refine WP_ret ?_
    exact ⟨DLe.refl _, trivial⟩
  have e : badB c = decide (idxB brk c ≥ 0) := by unfold badB; rw [show decide (c < 33) = false from hb, show decide (c > 126) = false from hb2]; rfl
  rw [e]
  repeat (first | refine Br.t ?_ | refine Br.f ?_)
  refine CallD.mk _ _ (SIndexByte_impl brk c) (by exact ⟨DLe.refl _, DLe.refl _, trivial⟩) ?_
  repeat (first | refine Br.t ?_ | refine Br.f ?_)
  refine WP_ret ?_
  exact ⟨DLe.refl _, trivial⟩

def idxF : List Int → Int → Int
  | [], _ => -1
  | c :: r, i => bif badB c then i else idxF r (i + 1)
theorem idxF_any : ∀ (l : List Int) (i : Int), 0 ≤ i → decide (idxF l i ≥ 0) = l.any badB
  | [], i, h => by simp [idxF]
  | c :: r, i, h => by
    unfold idxF
    cases hb : badB c with
    | true => simp [hb, h]
    | false => simp only [hb, cond_false, List.any_cons, Bool.false_or]; exact idxF_any r (i + 1) (by omega)
theorem IndexFunc_impl (l : List Int) (hl : l.length ≤ 4194304) : Impl Tryz.prog 116 [.one (.tl Int 1 encByte 0 l), .one (.sc (.func (.func 88) #[] #[]))] [.one (dint (idxF l 0))] := by
  refine impl_wp tabOk Tryz.func116 rfl rfl (by kernel_rfl) ?_
  refine WP_seq ?_
  refine vcc_sound _ _ _ tabOk (by exact rfl) ?_
  refine WP_seq ?_
  refine WP_seq ?_
  refine vcc_sound _ _ _ tabOk (by exact rfl) ?_
  refine WP_cutQ (α := {u : Unit // idxF l 0 = -1}) (fun _ => ofL []) (fun _ => []) (WP_block (WP_loop (α := {j : Nat // j ≤ l.length ∧ idxF l 0 = idxF (l.drop j) j}) (fun j => ofL [(0, .d (.tl Int 1 encByte 0 l)), (1, .v (.one (.sc (.func (.func 88) #[] #[])))), (7, .int (l.length : Int)), (8, .int ((j.1 : Nat) : Int))]) (fun j => []) (fun j => l.length - j.1) ⟨0, Nat.zero_le _, rfl⟩ (Sub.ofL _ _ (Nat.zero_le _) ⟨rfl, rfl, rfl, rfl, rfl, rfl, rfl, rfl, trivial⟩ rfl rfl) ?_)) ?_
  rotate_left
  · rintro ⟨⟨⟩, hE⟩ env st hs
    rw [hE]
    refine WP_sub hs ?_
    refine WP_seq ?_
    refine vcc_sound _ _ _ tabOk (by exact rfl) ?_
    refine WP_ret ?_
    exact ⟨DLe.refl _, trivial⟩
  rintro ⟨j, hj, hE⟩
  dsimp only
  refine WP_seq ?_
  refine vcc_sound _ _ _ tabOk (by exact rfl) ?_
  refine WP_seq ?_
  refine vcc_sound _ _ _ tabOk (by exact rfl) ?_
  refine Br.mk (fun hb => ?_) (fun hb => ?_)
  · have hjl : j < l.length := by have := of_decide_eq_true (show decide (((j : Nat) : Int) < ((l.length : Nat) : Int)) = true from hb); omega
    have hd : l.drop j = l[j] :: l.drop (j + 1) := List.drop_eq_getElem_cons hjl
    have hE2 : idxF l 0 = bif badB l[j] then (j : Int) else idxF (l.drop (j + 1)) ((j + 1 : Nat) : Int) := by rw [hE, hd]; rfl
    have hg : l.getD j 0 = l[j] := by simp [hjl]
    refine vcc_sound _ _ _ tabOk (by exact rfl) ?_
    refine WP_seq ?_
    refine WP_block ?_
    refine WP_seq ?_
    refine vcc_sound _ _ _ tabOk (by exact rfl) ?_
    refine WP_seq ?_
    refine vcc_sound _ _ _ tabOk (by exact rfl) ?_
    refine Ob.mk (by exact ⟨by omega, by omega⟩) ?_
    refine CallD.mk _ _ (Right1_impl (l.getD (((j : Nat) : Int)).toNat 0)) (by exact ⟨DLe.refl _, trivial⟩) ?_
    rw [Int.toNat_natCast, hg]
    refine vcc_sound _ _ _ tabOk (by exact rfl) ?_
    refine Br.mk (fun hb2 => ?_) (fun hb2 => ?_)
    · rw [hE2, show badB l[j] = true from hb2, cond_true]
      refine WP_seq ?_
      refine vcc_sound _ _ _ tabOk (by exact rfl) ?_
      refine WP_ret ?_
      exact ⟨DLe.refl _, trivial⟩
    · refine WP_skip ?_
      refine vcc_sound _ _ _ tabOk (by exact rfl) ?_
      refine Ob.mk (by exact ⟨by omega, by omega⟩) ?_
      rw [show badB l[j] = false from hb2, cond_false] at hE2
      exact ⟨⟨j + 1, hjl, hE2⟩, by show l.length - (j + 1) < l.length - j; omega, Sub.ofL _ _ (Nat.zero_le _) ⟨rfl, rfl, rfl, rfl, rfl, rfl, congrArg AV.int (show ((j : Nat) : Int) + 1 = ((j + 1 : Nat) : Int) by omega), rfl, trivial⟩ rfl rfl⟩
  · have hjl : j = l.length := by have := of_decide_eq_false (show decide (((j : Nat) : Int) < ((l.length : Nat) : Int)) = false from hb); omega
    subst hjl
    refine vcc_sound _ _ _ tabOk (by exact rfl) ?_
    exact ⟨⟨(), by rw [hE, List.drop_length]; rfl⟩, Sub.ofL _ _ (Nat.zero_le _) trivial rfl rfl⟩
end Go.Proofs.Nw.K
end
section
/- QI5: coord.Right. -/
open Go Go.RowKit Go.Proofs
set_option linter.unusedVariables false
set_option linter.unusedSimpArgs false
set_option maxHeartbeats 1000000
namespace Go.Proofs.Nw.K

theorem ContainsFunc_impl (l : List Int) (hl : l.length ≤ 4194304) : Impl Tryz.prog 87 [.one (.tl Int 1 encByte 0 l), .one (.sc (.func (.func 88) #[] #[]))] [.one (dbool (l.any badB))] := by
  refine impl_wp tabOk Tryz.func87 rfl rfl (by kernel_rfl) ?_
  refine WP_seq ?_
  refine vcc_sound _ _ _ tabOk (by exact rfl) ?_
  refine WP_seq ?_
  refine vcc_sound _ _ _ tabOk (by exact rfl) ?_
  refine CallD.mk _ _ (IndexFunc_impl l hl) (by exact ⟨DLe.refl _, DLe.refl _, trivial⟩) ?_
  rw [← idxF_any l 0 (Int.le_refl _)]
  refine WP_ret ?_
  exact ⟨DLe.refl _, trivial⟩

def rightW (v : Str) : Bool := bif decide ((v.size : Int) ≥ 1) then (bif decide ((v.size : Int) ≤ 100) then !((bytesI v).any badB) else false) else false
theorem WRight_impl (v : Str) : Impl Tryz.prog 51 [.one (dstr v)] [.one (dbool (rightW v))] := by
  have hM : (100 : Nat) ≤ maxLen := by decide
  refine impl_wp tabOk Tryz.func51 rfl rfl (by kernel_rfl) ?_
  refine WP_seq ?_
  refine vcc_sound _ _ _ tabOk (by exact rfl) ?_
  refine WP_seq ?_
  by_cases h1 : (v.size : Int) ≥ 1
  · by_cases h2 : (v.size : Int) ≤ 100
    · have e1 := decide_eq_true h1
      have e2 := decide_eq_true h2
      have e : rightW v = !((bytesI v).any badB) := by unfold rightW; rw [e1, e2]; rfl
      rw [e]
      refine WP_region ?_
      refine stepW tabOk rfl ?_
      refine stepW tabOk rfl ?_
      refine stepW tabOk rfl ?_
      refine stepW tabOk rfl ?_
      refine stepG tabOk rfl rfl rfl (ltb rfl) (congrArg AV.bool e1) ?_
      refine stepG tabOk rfl rfl rfl (ltb rfl) (congrArg AV.bool e1) ?_
      refine stepG tabOk rfl rfl rfl (ltb rfl) (congrArg AV.bool e1) ?_
      refine stepW tabOk rfl ?_
      refine Br.yes e1 ?_
      refine stepW tabOk rfl ?_
      refine stepG tabOk rfl rfl rfl (ltb rfl) (congrArg AV.bool e2) ?_
      refine stepGN rfl rfl rfl (ltb rfl) (congrArg AV.bool e2) ((op_str2bytesD 9 59 5 (.tmp 12) v (tabOk.kstr 9 rfl) (tabOk.kslice 59 5 rfl) (tabOk.kint 5 .u8 rfl) rfl (by omega) (by omega)).n ?_)
      refine stepG tabOk rfl rfl rfl (ltb rfl) (congrArg AV.bool e2) ?_
      refine CallD.mk _ _ (ContainsFunc_impl (bytesI v) (by rw [bytesI_length]; omega)) (by exact ⟨DLe.refl _, DLe.refl _, trivial⟩) ?_
      refine stepG tabOk rfl rfl rfl (ltb rfl) (congrArg AV.bool e2) ?_
      refine stepW tabOk rfl ?_
      refine Br.yes e2 ?_
      refine stepW tabOk rfl ?_
      refine WPL_nil ?_
      refine WP_ret ?_
      exact ⟨DLe.refl _, trivial⟩
    · have e : rightW v = false := by unfold rightW; rw [decide_eq_true h1, decide_eq_false h2]; rfl
      rw [e]
      refine vcc_sound _ _ _ tabOk (by exact rfl) ?_
      refine Br.yes (decide_eq_true h1) ?_
      repeat (first | refine Br.t ?_ | refine Br.f ?_)
      refine Br.no (decide_eq_false h2) ?_
      repeat (first | refine Br.t ?_ | refine Br.f ?_)
      refine WP_ret ?_
      exact ⟨DLe.refl _, trivial⟩
  · have e : rightW v = false := by unfold rightW; rw [decide_eq_false h1]; rfl
    rw [e]
    refine vcc_sound _ _ _ tabOk (by exact rfl) ?_
    refine Br.no (decide_eq_false h1) ?_
    repeat (first | refine Br.t ?_ | refine Br.f ?_)
    refine WP_ret ?_
    exact ⟨DLe.refl _, trivial⟩

def colonS : Str := ⟨#[58]⟩
theorem Index1_impl (v : Str) (hv : v.size ≤ 100) : Impl Tryz.prog 118 [.one (dstr v), .one (dstr colonS)] [.one (dint (idxB v 58))] := by
  refine impl_wp tabOk Tryz.func118 rfl rfl (by kernel_rfl) ?_
  refine WP_seq ?_
  refine vcc_sound _ _ _ tabOk (by exact rfl) ?_
  refine WP_seq ?_
  refine vcc_sound _ _ _ tabOk (by exact rfl) ?_
  refine WP_seq ?_
  refine WP_block ?_
  refine WP_seq ?_
  refine vcc_sound _ _ _ tabOk (by exact rfl) ?_
  repeat (first | refine Br.t ?_ | refine Br.f ?_)
  refine vcc_sound _ _ _ tabOk (by exact rfl) ?_
  refine Br.mk (fun hb => ?_) (fun hb => ?_)
  · have hv1 : colonS.toList = v.toList := by
      have : (colonS.toList == v.toList) = true := hb
      simpa using this
    have e : idxB v 58 = 0 := by
      unfold idxB
      rw [ByteArray.toList_eq, ByteArray.toList_eq] at hv1
      rw [← hv1]
      rfl
    rw [e]
    refine WP_seq ?_
    refine vcc_sound _ _ _ tabOk (by exact rfl) ?_
    refine WP_ret ?_
    exact ⟨DLe.refl _, trivial⟩
  refine WP_seq ?_
  refine vcc_sound _ _ _ tabOk (by exact rfl) ?_
  refine vcc_sound _ _ _ tabOk (by exact rfl) ?_
  refine Br.t ?_
  refine WP_seq ?_
  refine vcc_sound _ _ _ tabOk (by exact rfl) ?_
  refine Ob.mk (by exact ⟨by decide, by decide⟩) ?_
  refine CallD.mk _ _ (IndexByte_impl v 58) (by exact ⟨DLe.refl _, DLe.refl _, trivial⟩) ?_
  refine WP_ret ?_
  exact ⟨DLe.refl _, trivial⟩
theorem SIndex1_impl (v : Str) (hv : v.size ≤ 100) : Impl Tryz.prog 90 [.one (dstr v), .one (dstr colonS)] [.one (dint (idxB v 58))] := by
  refine impl_wp tabOk Tryz.func90 rfl rfl (by kernel_rfl) ?_
  refine WP_seq ?_
  refine vcc_sound _ _ _ tabOk (by exact rfl) ?_
  refine WP_seq ?_
  refine vcc_sound _ _ _ tabOk (by exact rfl) ?_
  refine CallD.mk _ _ (Index1_impl v hv) (by exact ⟨DLe.refl _, DLe.refl _, trivial⟩) ?_
  refine WP_ret ?_
  exact ⟨DLe.refl _, trivial⟩
theorem Contains1_impl (v : Str) (hv : v.size ≤ 100) : Impl Tryz.prog 52 [.one (dstr v), .one (dstr colonS)] [.one (dbool (decide (idxB v 58 ≥ 0)))] := by
  refine impl_wp tabOk Tryz.func52 rfl rfl (by kernel_rfl) ?_
  refine WP_seq ?_
  refine vcc_sound _ _ _ tabOk (by exact rfl) ?_
  refine WP_seq ?_
  refine vcc_sound _ _ _ tabOk (by exact rfl) ?_
  refine CallD.mk _ _ (SIndex1_impl v hv) (by exact ⟨DLe.refl _, DLe.refl _, trivial⟩) ?_
  refine WP_ret ?_
  exact ⟨DLe.refl _, trivial⟩
end Go.Proofs.Nw.K
end
section
/- QI6: coord.Right, and index.New as it is. -/
open Go Go.RowKit Go.Proofs
set_option linter.unusedVariables false
set_option linter.unusedSimpArgs false
set_option maxHeartbeats 1000000
namespace Go.Proofs.Nw.K

theorem ex_bif {α : Type} {b : Bool} {x y : Option α} (h1 : ∃ r, x = some r) (h2 : ∃ r, y = some r) : ∃ r, (bif b then x else y) = some r := by cases b with | true => exact h1 | false => exact h2
theorem letter_total (n : Nat) (c : Int) : ∃ r, g_coord_letter n c = some r := by
  unfold g_coord_letter
  repeat (first | exact ⟨_, rfl⟩ | refine ex_bif ?_ ?_)
theorem Id_loop (n : Nat) : ∀ (m : Nat) (s : Str), 0 < s.size → s.size ≤ m → ∃ r, g_coord_Id.l24 n m s = some r
  | 0, s, h0, hm => by omega
  | m + 1, s, h0, hm => by
    unfold g_coord_Id.l24 g_coord_Id.l24b
    rw [chk_t (by omega)]
    obtain ⟨b, hb⟩ := letter_total n (byteAt s 0)
    rw [hb, Option.bind_some, chk_t (by omega)]
    refine ex_bif ⟨_, rfl⟩ ?_
    cases he : (!((s.extract 1 s.size).toList == emp.toList)) with
    | false => exact ⟨_, rfl⟩
    | true =>
      have hs : (s.extract 1 s.size).size = s.size - 1 := by simp
      refine Id_loop n m _ ?_ (by omega)
      by_cases hz : 0 < (s.extract 1 s.size).size
      · exact hz
      · exfalso
        have h1 : (s.extract 1 s.size).toList = emp.toList := by
          rw [ByteArray.toList_eq, ByteArray.toList_eq]
          have : (s.extract 1 s.size).data.size = 0 := by
            have : (s.extract 1 s.size).size = 0 := by omega
            exact this
          rw [Array.eq_empty_of_size_eq_zero this]
          rfl
        rw [h1] at he
        simp at he
def idC (s : Str) : Bool := (g_coord_Id 600 s).getD false
theorem Id_total (s : Str) : g_coord_Id 600 s = some (idC s) := by
  have : ∃ r, g_coord_Id 600 s = some r := by
    unfold g_coord_Id
    cases h1 : (s.toList == emp.toList) with
    | true => exact ⟨_, rfl⟩
    | false =>
      cases h2 : decide ((s.size : Int) > 500) with
      | true => exact ⟨_, rfl⟩
      | false =>
        have h2 := of_decide_eq_false h2
        refine Id_loop 600 600 s ?_ (by omega)
        by_cases hz : 0 < s.size
        · exact hz
        · exfalso
          have h3 : s.toList = emp.toList := by
            rw [ByteArray.toList_eq, ByteArray.toList_eq]
            have : s.data.size = 0 := by
              have : s.size = 0 := by omega
              exact this
            rw [Array.eq_empty_of_size_eq_zero this]
            rfl
          rw [h3] at h1
          simp at h1
  obtain ⟨r, h⟩ := this
  unfold idC
  rw [h]
  rfl
theorem Id_impl (s : Str) : Impl Tryz.prog 50 [.one (dstr s)] [.one (dbool (idC s))] := g_coord_Id.ok 600 s _ (Id_total s)

def okC (c : Coord) : Bool := bif idC c.group then (bif idC c.name then (bif rightW c.version then !(decide (idxB c.version 58 ≥ 0)) else false) else false) else false
theorem rightW_size {v : Str} (h : rightW v = true) : v.size ≤ 100 := by
  unfold rightW at h
  cases h1 : decide ((v.size : Int) ≥ 1) with
  | false => rw [h1] at h; cases h
  | true =>
    rw [h1, cond_true] at h
    cases h2 : decide ((v.size : Int) ≤ 100) with
    | false => rw [h2] at h; cases h
    | true => have := of_decide_eq_true h2; omega
theorem Right_impl (c : Coord) : Impl Tryz.prog 29 [.agg (encCoord c)] [.one (dbool (okC c))] := by
  refine impl_wp tabOk Tryz.func29 rfl rfl (by kernel_rfl) ?_
  refine WP_seq ?_
  refine vcc_sound _ _ _ tabOk (by exact rfl) ?_
  refine WP_seq ?_
  refine vcc_sound _ _ _ tabOk (by exact rfl) ?_
  refine CallD.mk _ _ (Id_impl c.group) (by exact ⟨DLe.refl _, trivial⟩) ?_
  cases h1 : idC c.group with
  | false =>
    have e : okC c = false := by unfold okC; rw [h1]; rfl
    rw [e]
    repeat (first | refine Br.t ?_ | refine Br.f ?_)
    refine WP_ret ?_
    exact ⟨DLe.refl _, trivial⟩
  | true =>
    repeat (first | refine Br.t ?_ | refine Br.f ?_)
    refine CallD.mk _ _ (Id_impl c.name) (by exact ⟨DLe.refl _, trivial⟩) ?_
    cases h2 : idC c.name with
    | false =>
      have e : okC c = false := by unfold okC; rw [h1, h2]; rfl
      rw [e]
      repeat (first | refine Br.t ?_ | refine Br.f ?_)
      refine WP_ret ?_
      exact ⟨DLe.refl _, trivial⟩
    | true =>
      repeat (first | refine Br.t ?_ | refine Br.f ?_)
      refine CallD.mk _ _ (WRight_impl c.version) (by exact ⟨DLe.refl _, trivial⟩) ?_
      cases h3 : rightW c.version with
      | false =>
        have e : okC c = false := by unfold okC; rw [h1, h2, h3]; rfl
        rw [e]
        repeat (first | refine Br.t ?_ | refine Br.f ?_)
        refine WP_ret ?_
        exact ⟨DLe.refl _, trivial⟩
      | true =>
        have e : okC c = !(decide (idxB c.version 58 ≥ 0)) := by unfold okC; rw [h1, h2, h3]; rfl
        rw [e]
        repeat (first | refine Br.t ?_ | refine Br.f ?_)
        refine CallD.mk _ _ (Contains1_impl c.version (rightW_size h3)) (by exact ⟨DLe.refl _, DLe.refl _, trivial⟩) ?_
        repeat (first | refine Br.t ?_ | refine Br.f ?_)
        refine WP_ret ?_
        exact ⟨DLe.refl _, trivial⟩
theorem okC_size {c : Coord} (h : okC c = true) : c.version.size ≤ 100 := by
  unfold okC at h
  cases h1 : idC c.group with
  | false => rw [h1] at h; cases h
  | true =>
    cases h2 : idC c.name with
    | false => rw [h1, h2] at h; cases h
    | true =>
      cases h3 : rightW c.version with
      | false => rw [h1, h2, h3] at h; cases h
      | true => exact rightW_size h3
abbrev nilP : D := .sc (.pointer none)
/-- an index, as it is handed out: none, or one that holds these -/
def encIx : Option (List Item) → D
  | none => nilP
  | some l => ixD l
def newR (l : List Item) : Option (List Item) := if newE okC l = 0 then some l else none
theorem Ix_New (l : List Item) : Impl Tryz.prog 8 [.one (dItems l)] [.one (encIx (newR l)), .one (dint (newE okC l))] := by
  have := New_impl okC Right_impl (fun c h => by have := okC_size h; omega) l
  have e : encIx (newR l) = if newE okC l = 0 then ixD l else .sc (.pointer none) := by unfold newR; split <;> rfl
  rw [e]
  exact this
end Go.Proofs.Nw.K
end
section
/- QL1: plain laws: few, awake, OrderOne. -/
open Go Go.RowKit Go.Proofs Go.Sort Go.Shelf
set_option linter.unusedVariables false
set_option linter.unusedSimpArgs false
namespace Go.Proofs.Nw.K

theorem decN {a b : Nat} : decide ((a : Int) < (b : Int)) = decide (a < b) := by simp
theorem in64_nat {i : Nat} (h : i ≤ 4194304) : in64 ((i : Int) + 1) := by unfold in64; omega
theorem chk_at {i k : Nat} (h : i < k) {α : Type} (x : Option α) : chk (0 ≤ (i : Int) ∧ (i : Int) < (k : Int)) x = x := chk_t ⟨by omega, by omega⟩

/-! ### two lists of strings -/
theorem same_loop (n : Nat) (a b : List Str) (hab : a.length = b.length) (hl : a.length ≤ 4194304) : ∀ (m i : Nat), i ≤ a.length → a.length < i + m →
    g_newelhelp_Same_string__newelhelp_Plain_string_1.l20 n a b m (i : Int) = some (decide (a.drop i = b.drop i))
  | 0, i, h1, h => by omega
  | m + 1, i, h1, h => by
    unfold g_newelhelp_Same_string__newelhelp_Plain_string_1.l20 g_newelhelp_Same_string__newelhelp_Plain_string_1.l20b
    rw [decN]
    by_cases hi : i < a.length
    · have hi' : i < b.length := by omega
      have hd : a.drop i = a[i] :: a.drop (i + 1) := List.drop_eq_getElem_cons hi
      have hd' : b.drop i = b[i] :: b.drop (i + 1) := List.drop_eq_getElem_cons hi'
      have hg : a.getD (i : Int).toNat emp = a[i] := by simp [hi]
      have hg' : b.getD (i : Int).toNat emp = b[i] := by simp [hi']
      rw [decide_eq_true hi, hg, hg', cond_true, chk_at hi, chk_at hi']
      unfold g_newelhelp_Plain_string_1
      rw [Option.bind_some]
      by_cases hs : a[i] = b[i]
      · rw [hs]
        rw [beq_self_eq_true, Bool.not_true, cond_false, chk_t (in64_nat (by omega))]
        have ih := same_loop n a b hab hl m (i + 1) hi (by omega)
        rw [show (((i + 1 : Nat) : Int)) = (i : Int) + 1 by omega] at ih
        have he : (a.drop i = b.drop i) = (a.drop (i + 1) = b.drop (i + 1)) := by
          apply propext
          rw [hd, hd', hs]
          exact ⟨fun e => (List.cons.inj e).2, fun e => by rw [e]⟩
        rw [ih]
        exact congrArg some (decide_eq_decide.2 (by rw [he]))
      · have : (a[i].toList == b[i].toList) = false := by
          simp only [beq_eq_false_iff_ne]
          exact fun e => hs (toList_inj.1 e)
        have hne : ¬ a.drop i = b.drop i := by
          rw [hd, hd']
          exact fun e => hs (List.cons.inj e).1
        rw [this, decide_eq_false hne]
        rfl
    · rw [decide_eq_false hi]
      have : i = a.length := by omega
      subst this
      simp [g_newelhelp_Same_string__newelhelp_Plain_string_1.k20]
      rw [hab]; simp
theorem plain_eq (n : Nat) (a b : List Str) (hn : a.length < n) (hl : a.length ≤ 4194304) : g_newelhelp_Plain_string n a b = some (decide (a = b)) := by
  unfold g_newelhelp_Plain_string g_newelhelp_Same_string__newelhelp_Plain_string_1
  by_cases h : a.length = b.length
  · have : ((a.length : Int) != (b.length : Int)) = false := by simp [h]
    rw [this]
    simp only [cond_false]
    rw [show (0 : Int) = ((0 : Nat) : Int) from rfl, same_loop n a b h hl n 0 (Nat.zero_le _) (by omega)]
    simp
  · have : ((a.length : Int) != (b.length : Int)) = true := by simp; omega
    rw [this]
    have hne : a ≠ b := fun e => h (by rw [e])
    simp [hne]

/-! ### Sort, awake -/
theorem sort_eq (n : Nat) (l : List Str) (h1 : l.length ≤ 4194304) (h2 : ∀ x ∈ l, x.size ≤ 4194303) : g_order_Sort n l = some (sortV l) := by
  unfold g_order_Sort g_slices_Clone_string_string g_slices_SortFunc_string_string__order_whole
  rw [chk_t (by unfold room; omega)]
  simp only [Option.bind_some]
  rw [chk_t ⟨h1, h2⟩]
  rfl
end Go.Proofs.Nw.K
end
section
/- QI7: what an index tells. -/
open Go Go.RowKit Go.Proofs
set_option linter.unusedVariables false
set_option linter.unusedSimpArgs false
set_option maxHeartbeats 1000000
namespace Go.Proofs.Nw.K

structure IxT where
  val : Option (List Item)
  ok : ∀ l, val = some l → newE okC l = 0
def ixNil : IxT := ⟨none, fun l h => by cases h⟩
def ixNew (l : List Item) : IxT := ⟨newR l, fun m h => by
  unfold newR at h
  split at h
  · cases h; assumption
  · cases h⟩
def dIx (x : IxT) : D := .opt x.val.isSome (ixCells (x.val.getD []))
theorem dIx_le (x : IxT) : DLe (.one (dIx x)) (.one (encIx x.val)) := by
  obtain ⟨x, hx⟩ := x
  intro σ v h
  cases x with
  | none =>
    have h : Rep σ v (.opt false _) := h
    cases h
    exact Rep.sc rfl
  | some l =>
    have h : Rep σ v (.opt true _) := h
    cases h with
    | optS h => exact h
theorem dIx_ge (x : IxT) : DLe (.one (encIx x.val)) (.one (dIx x)) := by
  obtain ⟨x, hx⟩ := x
  intro σ v h
  cases x with
  | none =>
    have h : Rep σ v (.sc (.pointer none)) := h
    cases h
    exact Rep.optN
  | some l => exact Rep.optS h

def g_index_New (n : Nat) (a0 : List Item) : Option (IxT × Int) := some (ixNew a0, newE okC a0)
theorem g_index_New.ok (n : Nat) (a0 : List Item) (r : IxT × Int) (h : g_index_New n a0 = some r) : Impl Tryz.prog 8 [.one (.tl Item 4 encItem zItem a0)] [.one (dIx r.1), .one (dint r.2)] := by
  obtain rfl := Option.some.inj h
  exact (Ix_New a0).res ⟨dIx_ge (ixNew a0), DLe.refl _, trivial⟩

def findI (c : Coord) : Option (List Item) → Str × Bool
  | none => (emp, false)
  | some l => (lookT c l, (fndM c (textT l)).isSome)
def g_index_Index_Find (n : Nat) (x : IxT) (c : Coord) : Option (Str × Bool) := some (findI c x.val)
def lenI : Option (List Item) → Int
  | none => 0
  | some l => (l.length : Int)
def g_index_Index_Len (n : Nat) (x : IxT) : Option Int := some (lenI x.val)
theorem isNil {E : Operand → AV} {st : List AO} (x y : Operand) (hx : E x = .sc (.pointer none)) (hy : E y = .sc (.pointer none)) : OpS Tryz.prog (.binOp .eql 32 x y 32) E st (.bool true) st := op_peql_nils 32 32 x y (tabOk.pt 32 rfl) hx hy
theorem isRef {E : Operand → AV} {st : List AO} (x y : Operand) (cells : List D) (hx : E x = .d (.ref cells)) (hy : E y = .sc (.pointer none)) : OpS Tryz.prog (.binOp .eql 32 x y 32) E st (.bool false) st := op_refeq_nil 32 32 x y cells (tabOk.pt 32 rfl) hx hy

theorem g_index_Index_Len.ok (n : Nat) (x : IxT) (r : Int) (h : g_index_Index_Len n x = some r) : Impl Tryz.prog 11 [.one (dIx x)] [.one (dint r)] := by
  obtain rfl := Option.some.inj h
  obtain ⟨x, hx⟩ := x
  refine Impl.le (ds' := [.one (encIx x)]) ?_ ⟨dIx_le ⟨x, hx⟩, trivial⟩
  show Impl Tryz.prog 11 [.one (encIx x)] [.one (dint (lenI x))]
  refine impl_wp tabOk Tryz.func11 rfl rfl (by kernel_rfl) ?_
  refine WP_seq ?_
  refine vcc_sound _ _ _ tabOk (by exact rfl) ?_
  refine WP_seq ?_
  refine WP_seq ?_
  refine WP_region ?_
  refine stepW tabOk rfl ?_
  cases x with
  | none =>
    refine stepO rfl (isNil _ _ rfl rfl) ?_
    refine WPL_nil ?_
    refine vcc_sound _ _ _ tabOk (by exact rfl) ?_
    refine Br.t ?_
    refine WP_seq ?_
    refine vcc_sound _ _ _ tabOk (by exact rfl) ?_
    refine WP_ret ?_
    exact ⟨DLe.refl _, trivial⟩
  | some l =>
    rw [show lenI (some l) = ((sortCo (l.map (·.coord))).length : Int) by rw [sortCo_length, List.length_map]; rfl]
    refine stepO rfl (isRef _ _ (ixCells l) rfl rfl) ?_
    refine WPL_nil ?_
    refine vcc_sound _ _ _ tabOk (by exact rfl) ?_
    refine Br.f ?_
    refine WP_skip ?_
    refine WP_seq ?_
    refine vcc_sound _ _ _ tabOk (by exact rfl) ?_
    refine WP_ret ?_
    exact ⟨DLe.refl _, trivial⟩

def textD (d : List Item) : List (Coord × D) := d.map fun it => (it.coord, dstr it.text)
theorem textD_fnd (c : Coord) : ∀ (d : List Item), fndM c (textD d) = fndM c (textT d)
  | [] => rfl
  | it :: r => by
    have := textD_fnd c r
    unfold textD textT at *
    simp only [List.map_cons, fndM, this]
theorem textD_look (c : Coord) : ∀ (d : List Item), lookM (dstr emp) c (textD d) = dstr (lookT c d)
  | [] => rfl
  | it :: r => by
    have := textD_look c r
    unfold lookT textD at *
    simp only [List.map_cons, lookM]
    split
    · rfl
    · exact this
theorem g_index_Index_Find.ok (n : Nat) (x : IxT) (c : Coord) (r : Str × Bool) (h : g_index_Index_Find n x c = some r) : Impl Tryz.prog 18 [.one (dIx x), .agg (encCoord c)] [.one (dstr r.1), .one (dbool r.2)] := by
  obtain rfl := Option.some.inj h
  obtain ⟨x, hx⟩ := x
  refine Impl.le (ds' := [.one (encIx x), .agg (encCoord c)]) ?_ ⟨dIx_le ⟨x, hx⟩, DLe.refl _, trivial⟩
  show Impl Tryz.prog 18 [.one (encIx x), .agg (encCoord c)] [.one (dstr (findI c x).1), .one (dbool (findI c x).2)]
  refine impl_wp tabOk Tryz.func18 rfl rfl (by kernel_rfl) ?_
  refine WP_seq ?_
  refine vcc_sound _ _ _ tabOk (by exact rfl) ?_
  refine WP_seq ?_
  refine WP_seq ?_
  refine WP_region ?_
  refine stepW tabOk rfl ?_
  cases x with
  | none =>
    refine stepO rfl (isNil _ _ rfl rfl) ?_
    refine WPL_nil ?_
    refine vcc_sound _ _ _ tabOk (by exact rfl) ?_
    refine Br.t ?_
    refine WP_seq ?_
    refine vcc_sound _ _ _ tabOk (by exact rfl) ?_
    refine WP_ret ?_
    exact ⟨DLe.refl _, DLe.refl _, trivial⟩
  | some l =>
    refine stepO rfl (isRef _ _ (ixCells l) rfl rfl) ?_
    refine WPL_nil ?_
    refine vcc_sound _ _ _ tabOk (by exact rfl) ?_
    refine Br.f ?_
    refine WP_skip ?_
    refine WP_sub (Sub.ofL [(0, .d (ixD l)), (3, .ptr 0 0)] [.box 29 ((encCoord c).map AV.d)] (Nat.zero_le _) ⟨rfl, rfl, rfl, rfl, trivial⟩ rfl rfl) ?_
    refine WP_seq ?_
    refine WP_draw3 11 (List.replicate 11 false) [[.box 29 ((encCoord c).map AV.d)]] tabOk.mixed (by kernel_rfl) rfl ?_
    have hin : ∀ s ∈ [[AO.box 29 ((encCoord c).map AV.d)]], s = [.box 29 ((encCoord c).map AV.d)] := fun s hs => by simpa using hs
    refine WT_puk tabOk rfl rfl (PuK.mk _ (fun st => ⟨rfl, rfl⟩) ?_)
    refine WT_puk tabOk rfl rfl (PuK.mk _ (fun st => ⟨rfl, rfl⟩) ?_)
    refine WT_puk tabOk rfl rfl (PuK.mk _ (fun st => ⟨rfl, rfl⟩) ?_)
    refine WT_puk tabOk rfl rfl (PuK.mk _ (fun st => ⟨rfl, rfl⟩) ?_)
    refine WT_pure rfl rfl (fun s hs => by rw [hin s hs]; exact op_load_ptr 29 (.tmp 3) 3 0 0 (encCoord c) ((encCoord c).map AV.d) (tabOk.ld 29 _ rfl) rfl rfl rfl rfl) ?_
    refine WT_pure rfl rfl (fun s hs => op_lookupD 60 (.tmp 14) (.tmp 15) (textD l) c keyC mapTC (dstr emp) rfl (by simp [textD, Function.comp_def]; rfl) ref_val true) ?_
    rw [if_pos rfl, textD_look, textD_fnd]
    refine WT_puk tabOk rfl rfl (PuK.mk _ (fun st => ⟨rfl, rfl⟩) ?_)
    refine WT_puk tabOk rfl rfl (PuK.mk _ (fun st => ⟨rfl, rfl⟩) ?_)
    refine WT_puk tabOk rfl rfl (PuK.mk _ (fun st => ⟨rfl, rfl⟩) ?_)
    refine WT_puk tabOk rfl rfl (PuK.mk _ (fun st => ⟨rfl, rfl⟩) ?_)
    refine WT_puk tabOk rfl rfl (PuK.mk _ (fun st => ⟨rfl, rfl⟩) ?_)
    intro s hs
    obtain rfl : [AO.box 29 ((encCoord c).map AV.d)] = s := by simpa using hs
    refine WP_seq ?_
    refine vcc_sound _ _ _ tabOk (by exact rfl) ?_
    refine WP_ret ?_
    exact ⟨DLe.refl _, DLe.refl _, trivial⟩
end Go.Proofs.Nw.K
end
section
/- Printed by a program of mine (pg.py): functions that may have no answer, and that the code comes to them. -/
open Go Go.RowKit Go.Proofs
set_option linter.unusedVariables false
set_option linter.unusedSimpArgs false
set_option maxHeartbeats 1000000
namespace Go.Proofs.Nw.K

/-! ### slices.Clone[[]newel/api.Coord,newel/api.Coord] -/
def g_slices_Clone_api_Coord_api_Coord (n : Nat) (l : (List Coord)) : Option (List Coord) := chk (room l.length 48) <| some l
theorem g_slices_Clone_api_Coord_api_Coord.ok (n : Nat) (l : (List Coord)) (r : (List Coord)) (h : g_slices_Clone_api_Coord_api_Coord n l = some r) : Impl Tryz.prog 40 [.one (.tl Coord 3 encCoord zCoord l)] [.one (.tl Coord 3 encCoord zCoord r)] := by
  obtain ⟨c1, h⟩ := chk_some h
  obtain rfl := Option.some.inj h
  refine impl_wp tabOk Tryz.func40 rfl rfl (by kernel_rfl) ?_
  refine WP_seq ?_
  refine vcc_sound _ _ _ tabOk (by exact rfl) ?_
  refine WP_seq ?_
  refine WP_seq ?_
  refine vcc_sound _ _ _ tabOk (by exact rfl) ?_
  refine And.intro (fun e => ?_) ?_
  · refine vcc_sound _ _ _ tabOk (by exact rfl) ?_
    repeat (first | refine Ob.mk (by first | rfl | omega | assumption | exact ⟨rfl, rfl, (List.length_map _).symm⟩ | exact ⟨rfl, rfl, by rw [List.length_map]; omega⟩) ?_ | refine Br.t ?_ | refine Br.f ?_)
    refine WP_seq ?_
    refine vcc_sound _ _ _ tabOk (by exact rfl) ?_
    refine WP_ret ?_
    exact ⟨by subst e; exact DLe.nils _, trivial⟩
  refine vcc_sound _ _ _ tabOk (by exact rfl) ?_
  repeat (first | refine Ob.mk (by first | rfl | omega | assumption | exact ⟨rfl, rfl, (List.length_map _).symm⟩ | exact ⟨rfl, rfl, by rw [List.length_map]; omega⟩) ?_ | refine Br.t ?_ | refine Br.f ?_)
  refine WP_skip ?_
  refine WP_seq ?_
  refine vcc_sound _ _ _ tabOk (by exact rfl) ?_
  repeat (first | refine Ob.mk (by first | rfl | omega | assumption | exact ⟨rfl, rfl, (List.length_map _).symm⟩ | exact ⟨rfl, rfl, by rw [List.length_map]; omega⟩) ?_ | refine Br.t ?_ | refine Br.f ?_)
  refine AppK.ty encCoord [] l rfl rfl rfl (by simpa using c1) ?_
  refine WP_ret ?_
  repeat (first | refine Ob.mk (by first | rfl | omega | assumption | exact ⟨rfl, rfl, (List.length_map _).symm⟩ | exact ⟨rfl, rfl, by rw [List.length_map]; omega⟩) ?_ | refine Br.t ?_ | refine Br.f ?_)
  exact ⟨DLe.tl _ rfl, trivial⟩
theorem g_slices_Clone_api_Coord_api_Coord.own (n : Nat) (l : (List Coord)) (r : (List Coord)) (h : g_slices_Clone_api_Coord_api_Coord n l = some r) : Gives Tryz.prog 40 [.one (.tl Coord 3 encCoord zCoord l)] 29 3 (r.map encCoord) := by
  obtain ⟨c1, h⟩ := chk_some h
  obtain rfl := Option.some.inj h
  refine gives_of Tryz.func40 rfl rfl rfl (by kernel_rfl) ?_
  refine WP_seq ?_
  refine vcc_sound _ _ _ tabOk (by exact rfl) ?_
  refine WP_seq ?_
  refine WP_seq ?_
  refine vcc_sound _ _ _ tabOk (by exact rfl) ?_
  refine And.intro (fun e => ?_) ?_
  · refine vcc_sound _ _ _ tabOk (by exact rfl) ?_
    repeat (first | refine Ob.mk (by first | rfl | omega | assumption | exact ⟨rfl, rfl, (List.length_map _).symm⟩ | exact ⟨rfl, rfl, by rw [List.length_map]; omega⟩) ?_ | refine Br.t ?_ | refine Br.f ?_)
    refine WP_seq ?_
    refine vcc_sound _ _ _ tabOk (by exact rfl) ?_
    refine WP_sub (Sub.nilsRow 2 29 3 rfl) ?_
    refine WP_ret ?_
    subst e
    exact ⟨0, rfl, rfl⟩
  refine vcc_sound _ _ _ tabOk (by exact rfl) ?_
  repeat (first | refine Ob.mk (by first | rfl | omega | assumption | exact ⟨rfl, rfl, (List.length_map _).symm⟩ | exact ⟨rfl, rfl, by rw [List.length_map]; omega⟩) ?_ | refine Br.t ?_ | refine Br.f ?_)
  refine WP_skip ?_
  refine WP_seq ?_
  refine vcc_sound _ _ _ tabOk (by exact rfl) ?_
  repeat (first | refine Ob.mk (by first | rfl | omega | assumption | exact ⟨rfl, rfl, (List.length_map _).symm⟩ | exact ⟨rfl, rfl, by rw [List.length_map]; omega⟩) ?_ | refine Br.t ?_ | refine Br.f ?_)
  refine AppK.ty encCoord [] l rfl rfl rfl (by simpa using c1) ?_
  refine WP_ret ?_
  repeat (first | refine Ob.mk (by first | rfl | omega | assumption | exact ⟨rfl, rfl, (List.length_map _).symm⟩ | exact ⟨rfl, rfl, by rw [List.length_map]; omega⟩) ?_ | refine Br.t ?_ | refine Br.f ?_)
  exact ⟨_, congrArg (AV.h 0 _ 0) (List.length_map _).symm, rfl⟩

end Go.Proofs.Nw.K
end
section
/- QI8: an index's versions and coords; awake. -/
open Go Go.RowKit Go.Proofs
set_option linter.unusedVariables false
set_option linter.unusedSimpArgs false
set_option maxHeartbeats 1000000
namespace Go.Proofs.Nw.K

theorem newGo_ok : ∀ (r d : List Item) (ok : Coord → Bool), newGo d ok r = 0 → ∀ it ∈ r, ok it.coord = true
  | [], d, ok, h, it, hi => by cases hi
  | x :: r, d, ok, h, it, hi => by
    unfold newGo at h
    cases h1 : ok x.coord with
    | false => rw [h1] at h; cases h
    | true =>
      rw [h1, cond_true] at h
      rcases List.mem_cons.1 hi with rfl | hi
      · exact h1
      · cases h2 : (fndM x.coord (textT d)).isSome with
        | true => rw [h2] at h; cases h
        | false => rw [h2, cond_false] at h; exact newGo_ok r _ ok h it hi
theorem newE_facts {ok : Coord → Bool} {l : List Item} (h : newE ok l = 0) : l.length ≤ 300 ∧ newGo [] ok l = 0 ∧ ∀ it ∈ l, ok it.coord = true := by
  unfold newE at h
  cases h1 : decide ((l.length : Int) > 300) with
  | true => rw [h1] at h; cases h
  | false =>
    rw [h1, cond_false] at h
    have := of_decide_eq_false h1
    exact ⟨by omega, h, newGo_ok l [] ok h⟩

theorem versOf_mem (l : List Coord) : ∀ e ∈ versOf l, ∀ v ∈ e.2, ∃ c ∈ l, c.version = v := by
  have key : ∀ (n : Nat) (l : List Coord), l.length = n → ∀ e ∈ versOf l, ∀ v ∈ e.2, ∃ c ∈ l, c.version = v := by
    intro n
    induction n with
    | zero => intro l hl e he; rw [List.eq_nil_of_length_eq_zero hl] at he; cases he
    | succ n ih =>
      intro l hl e he v hv
      obtain ⟨r, c, rfl⟩ : ∃ r c, l = r ++ [c] := ⟨l.dropLast, l.getLast (by intro h; simp [h] at hl), (List.dropLast_concat_getLast _).symm⟩
      have hr : r.length = n := by simpa using hl
      rw [versOf_snoc] at he
      rcases mem_updM _ _ _ _ he with h | h
      · rw [h] at hv
        rcases List.mem_append.1 hv with hv | hv
        · rcases lookM_mem (prj c) [] (versOf r) with h2 | h2
          · rw [h2] at hv; cases hv
          · obtain ⟨c', h3, h4⟩ := ih r hr _ h2 v hv
            exact ⟨c', by simp [h3], h4⟩
        · exact ⟨c, by simp, by simp at hv; exact hv.symm⟩
      · obtain ⟨c', h3, h4⟩ := ih r hr e h v hv
        exact ⟨c', by simp [h3], h4⟩
  exact key l.length l rfl
def versI (p : Pj) : Option (List Item) → List Str
  | none => []
  | some l => sortV (lookM [] p (versOf (l.map (·.coord))))
def g_index_Index_Versions (n : Nat) (x : IxT) (g nm : Str) : Option (List Str) := some (versI (g, nm) x.val)
theorem verD_look (p : Pj) : ∀ (V : List (Pj × List Str)), DLe (.one (lookM D.nils p (V.map fun e => (e.1, dStrs e.2)))) (.one (dStrs (lookM [] p V)))
  | [] => DLe.nils emp
  | (q, vs) :: r => by
    have := verD_look p r
    simp only [List.map_cons, lookM]
    split
    · exact DLe.refl _
    · exact this
theorem ps_val {a b : Str} (σ : Sig) (gh : List Value) (st : List AO) (v : Value) (h : RepA σ gh st v (.agg [dstr a, dstr b])) : v = kvP (a, b) := strs_val (l := ksP (a, b)) h

theorem g_index_Index_Versions.ok (n : Nat) (x : IxT) (a b : Str) (r : List Str) (h : g_index_Index_Versions n x a b = some r) : Impl Tryz.prog 9 [.one (dIx x), .one (dstr a), .one (dstr b)] [.one (.tl Str 1 encStr emp r)] := by
  obtain rfl := Option.some.inj h
  obtain ⟨x, hx⟩ := x
  refine Impl.le (ds' := [.one (encIx x), .one (dstr a), .one (dstr b)]) ?_ ⟨dIx_le ⟨x, hx⟩, DLe.refl _, DLe.refl _, trivial⟩
  show Impl Tryz.prog 9 [.one (encIx x), .one (dstr a), .one (dstr b)] [.one (.tl Str 1 encStr emp (versI (a, b) x))]
  refine impl_wp tabOk Tryz.func9 rfl rfl (by kernel_rfl) ?_
  refine WP_seq ?_
  refine vcc_sound _ _ _ tabOk (by exact rfl) ?_
  refine WP_seq ?_
  refine WP_seq ?_
  refine WP_region ?_
  refine stepW tabOk rfl ?_
  cases x with
  | none =>
    refine stepO rfl (isNil _ _ rfl rfl) ?_
    refine WPL_nil ?_
    refine vcc_sound _ _ _ tabOk (by exact rfl) ?_
    refine Br.t ?_
    refine WP_seq ?_
    refine vcc_sound _ _ _ tabOk (by exact rfl) ?_
    refine WP_ret ?_
    exact ⟨DLe.nils emp, trivial⟩
  | some l =>
    obtain ⟨h1, _, h2⟩ := newE_facts (hx l rfl)
    have hle := lookM_le (l.map (·.coord)) (a, b)
    rw [List.length_map] at hle
    have hsz : ∀ v ∈ lookM [] (a, b) (versOf (l.map (·.coord))), v.size ≤ 4194303 := fun v hv => by
      rcases lookM_mem (a, b) [] (versOf (l.map (·.coord))) with h3 | h3
      · rw [h3] at hv; cases hv
      · obtain ⟨c, hc, rfl⟩ := versOf_mem _ _ h3 v hv
        obtain ⟨it, hi, rfl⟩ := List.mem_map.1 hc
        have := okC_size (h2 it hi)
        omega
    have hsort := g_order_Sort.ok n _ _ (sort_eq n (lookM [] (a, b) (versOf (l.map (·.coord)))) (by omega) hsz)
    refine stepO rfl (isRef _ _ (ixCells l) rfl rfl) ?_
    refine WPL_nil ?_
    refine vcc_sound _ _ _ tabOk (by exact rfl) ?_
    refine Br.f ?_
    refine WP_skip ?_
    refine WP_seq ?_
    refine WP_region ?_
    refine stepW tabOk rfl ?_
    refine stepW tabOk rfl ?_
    refine stepW tabOk rfl ?_
    refine stepW tabOk rfl ?_
    refine stepW tabOk rfl ?_
    refine stepW tabOk rfl ?_
    refine stepW tabOk rfl ?_
    refine stepO rfl (op_lookupD 61 (.tmp 12) (.tmp 15) ((versOf (l.map (·.coord))).map fun e => (e.1, dStrs e.2)) (a, b) keyP mapTP .nils rfl (by simp [Function.comp_def]; rfl) ps_val false) ?_
    refine stepW tabOk rfl ?_
    refine CallD.mk _ _ hsort (by exact ⟨verD_look _ _, trivial⟩) ?_
    refine stepW tabOk rfl ?_
    refine WPL_nil ?_
    refine WP_ret ?_
    exact ⟨DLe.refl _, trivial⟩

def coordsI : Option (List Item) → List Coord
  | none => []
  | some l => sortCo (l.map (·.coord))
def g_index_Index_Coords (n : Nat) (x : IxT) : Option (List Coord) := some (coordsI x.val)
theorem g_index_Index_Coords.ok (n : Nat) (x : IxT) (r : List Coord) (h : g_index_Index_Coords n x = some r) : Impl Tryz.prog 23 [.one (dIx x)] [.one (.tl Coord 3 encCoord zCoord r)] := by
  obtain rfl := Option.some.inj h
  obtain ⟨x, hx⟩ := x
  refine Impl.le (ds' := [.one (encIx x)]) ?_ ⟨dIx_le ⟨x, hx⟩, trivial⟩
  show Impl Tryz.prog 23 [.one (encIx x)] [.one (.tl Coord 3 encCoord zCoord (coordsI x))]
  refine impl_wp tabOk Tryz.func23 rfl rfl (by kernel_rfl) ?_
  refine WP_seq ?_
  refine vcc_sound _ _ _ tabOk (by exact rfl) ?_
  refine WP_seq ?_
  refine WP_seq ?_
  refine WP_region ?_
  refine stepW tabOk rfl ?_
  cases x with
  | none =>
    refine stepO rfl (isNil _ _ rfl rfl) ?_
    refine WPL_nil ?_
    refine vcc_sound _ _ _ tabOk (by exact rfl) ?_
    refine Br.t ?_
    refine WP_seq ?_
    refine vcc_sound _ _ _ tabOk (by exact rfl) ?_
    refine WP_ret ?_
    exact ⟨DLe.nils zCoord, trivial⟩
  | some l =>
    obtain ⟨h1, _, h2⟩ := newE_facts (hx l rfl)
    refine stepO rfl (isRef _ _ (ixCells l) rfl rfl) ?_
    refine WPL_nil ?_
    refine vcc_sound _ _ _ tabOk (by exact rfl) ?_
    refine Br.f ?_
    refine WP_skip ?_
    refine WP_seq ?_
    refine vcc_sound _ _ _ tabOk (by exact rfl) ?_
    refine CallD.mk _ _ (g_slices_Clone_api_Coord_api_Coord.ok n (sortCo (l.map (·.coord))) (sortCo (l.map (·.coord))) (by unfold g_slices_Clone_api_Coord_api_Coord; exact chk_t (by unfold room; rw [sortCo_length, List.length_map]; omega))) (by exact ⟨DLe.refl _, trivial⟩) ?_
    refine WP_ret ?_
    exact ⟨DLe.refl _, trivial⟩

/-! ### awake -/
def cA : Coord := ⟨⟨#[103]⟩, ⟨#[97]⟩, ⟨#[49]⟩⟩
def itA : Item := ⟨cA, ⟨#[116]⟩⟩
theorem okA : okC cA = true := by kernel_rfl
theorem newA : newE okC [itA] = 0 := by
  unfold newE newGo newGo
  rw [show okC itA.coord = true from okA]
  rfl
theorem ixA : newR [itA] = some [itA] := by unfold newR; rw [newA, if_pos rfl]
def g_newellaw13_awake (n : Nat) : Option Bool := some true
theorem versA : versI (⟨#[103]⟩, ⟨#[97]⟩) (some [itA]) = [⟨#[49]⟩] := by
  show sortV [(⟨#[49]⟩ : Str)] = _
  simp [sortV]
theorem g_newellaw13_awake.ok (n : Nat) (r : Bool) (h : g_newellaw13_awake n = some r) : Impl Tryz.prog 10 [] [.one (dbool r)] := by
  obtain rfl := Option.some.inj h
  have hN := Ix_New [itA]
  rw [ixA, newA] at hN
  have hval : (ixNew [itA]).val = some [itA] := ixA
  have hle : DLe (.one (ixD [itA])) (.one (dIx (ixNew [itA]))) := by
    have := dIx_ge (ixNew [itA])
    rw [hval] at this
    exact this
  have hF := g_index_Index_Find.ok 0 (ixNew [itA]) cA _ rfl
  have hL := g_index_Index_Len.ok 0 (ixNew [itA]) _ rfl
  have hV := g_index_Index_Versions.ok 0 (ixNew [itA]) ⟨#[103]⟩ ⟨#[97]⟩ _ rfl
  rw [hval] at hF hL hV
  rw [versA] at hV
  replace hF := hF.le (ds := [.one (ixD [itA]), .agg (encCoord cA)]) ⟨hle, DLe.refl _, trivial⟩
  replace hL := hL.le (ds := [.one (ixD [itA])]) ⟨hle, trivial⟩
  replace hV := hV.le (ds := [.one (ixD [itA]), .one (dstr ⟨#[103]⟩), .one (dstr ⟨#[97]⟩)]) ⟨hle, DLe.refl _, DLe.refl _, trivial⟩
  have eF : findI cA (some [itA]) = (⟨#[116]⟩, true) := by simp [findI, lookT, lookM, fndM, textT, itA]
  rw [eF] at hF
  have hL : Impl Tryz.prog 11 [.one (ixD [itA])] [.one (dint 1)] := hL
  refine impl_wp tabOk Tryz.func10 rfl rfl (by kernel_rfl) ?_
  refine WP_seq ?_
  refine vcc_sound _ _ _ tabOk (by exact rfl) ?_
  refine WP_seq ?_
  refine vcc_sound _ _ _ tabOk (by exact rfl) ?_
  refine NewS.list ?_
  refine CallD.mk _ _ hN (by exact ⟨DLe.tl zItem rfl, trivial⟩) ?_
  refine WP_seq ?_
  refine WP_seq ?_
  refine WP_region ?_
  refine stepW tabOk rfl ?_
  refine stepW tabOk rfl ?_
  refine stepW tabOk rfl ?_
  refine stepG tabOk rfl rfl rfl (ltb rfl) rfl ?_
  refine stepGN rfl rfl rfl (ltb rfl) rfl ((isRef _ _ (ixCells [itA]) rfl rfl).n ?_)
  refine stepW tabOk rfl ?_
  refine Br.f ?_
  refine WPL_nil ?_
  refine WP_sub (Sub.ofL [(1, .d (ixD [itA])), (17, .bool false)] [] (Nat.zero_le _) ⟨rfl, rfl, rfl, rfl, trivial⟩ rfl rfl) ?_
  refine vcc_sound _ _ _ tabOk (by exact rfl) ?_
  refine Br.f ?_
  refine WP_skip ?_
  refine WP_seq ?_
  refine vcc_sound _ _ _ tabOk (by exact rfl) ?_
  refine CallD.mk _ _ hF (by exact ⟨DLe.refl _, DLe.refl _, trivial⟩) ?_
  refine WP_seq ?_
  refine vcc_sound _ _ _ tabOk (by exact rfl) ?_
  repeat (first | refine Br.t ?_ | refine Br.f ?_)
  refine Br.yes (by rw [beq_self_eq_true]) ?_
  repeat (first | refine Br.t ?_ | refine Br.f ?_)
  refine CallD.mk _ _ hL (by exact ⟨DLe.refl _, trivial⟩) ?_
  repeat (first | refine Br.t ?_ | refine Br.f ?_)
  refine CallD.mk _ _ hV (by exact ⟨DLe.refl _, DLe.refl _, DLe.refl _, trivial⟩) ?_
  repeat (first | refine Br.t ?_ | refine Br.f ?_)
  refine NewS.list ?_
  repeat (first | refine Br.t ?_ | refine Br.f ?_)
  refine CallD.mk _ _ (g_newelhelp_Plain_string.ok 2 [⟨#[49]⟩] [⟨#[49]⟩] true (by rw [plain_eq _ _ _ (by decide) (by decide), decide_eq_true rfl])) (by exact ⟨DLe.refl _, DLe.tl emp rfl, trivial⟩) ?_
  repeat (first | refine Br.t ?_ | refine Br.f ?_)
  refine WP_ret ?_
  exact ⟨DLe.refl _, trivial⟩
theorem force_in {a : AV} {K : AV → Prop} (h : K a) : force a K := by
  unfold force
  split <;> exact h
end Go.Proofs.Nw.K
end
