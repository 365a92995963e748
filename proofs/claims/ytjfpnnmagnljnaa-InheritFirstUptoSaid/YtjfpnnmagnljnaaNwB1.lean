/- B1: strings.Builder: what its methods do to a builder of one's own. -/
import Derived.Test.YtjfpnnmagnljnaaNwTab
open Go Go.RowKit Go.Proofs
set_option linter.unusedVariables false
set_option linter.unusedSimpArgs false
namespace Go.Proofs.Nw.K

theorem copyCheck_eff {st : List AO} {s : Nat} {a h : AV} (hst : st[s]? = some (.box 77 [a, h])) (ha : a = .sc (.pointer none) ∨ a = .ptr s 0) :
    Eff Try.prog 64 [.ptr s 0] st [] (st.set s (.box 77 [.ptr s 0, h])) := by
  have hlt : s < st.length := (List.getElem?_eq_some_iff.1 hst).1
  have hd : ∀ k : Nat, k < 20 → ∀ d, some k = some d → d < 20 := fun k hk d e => by cases e; exact hk
  have hn : ∀ d, none = some d → d < 20 := fun d e => by cases e
  refine eff_vc0 Try.func64 rfl rfl (by exact Nat.le_of_ble_eq_true rfl) ?_
  refine WP_seq (WP_region ?_)
  refine WPL_op (op_move (.tmp 0)) (hd 2 (by decide)) ?_
  refine WPL_op (op_nilCheck_ptr (.tmp 2) s 0 rfl) (hd 3 (by decide)) ?_
  refine WPL_op (op_fieldAddr_ptr 77 (.tmp 3) 0 s 0 0 (tabOk.fo _ _ _ rfl) rfl) (hd 4 (by decide)) ?_
  refine WPL_op (op_load_ptr1 74 (.tmp 4) 1 s 0 a _ (tabOk.ld _ _ rfl) rfl hst rfl) (hd 5 (by decide)) ?_
  rcases ha with rfl | rfl
  · refine WPL_op (op_peql_nils 74 _ (.tmp 5) _ (tabOk.pt _ rfl) rfl rfl) (hd 6 (by decide)) (WPL_nil ?_)
    refine WP_cond_t rfl (WP_region ?_)
    refine WPL_op (op_move (.tmp 0)) (hd 7 (by decide)) ?_
    refine WPL_op (op_move (.tmp 0)) (hd 8 (by decide)) ?_
    refine WPL_op (op_convert_ptr 74 120 (.tmp 8) s 77 _ rfl hst (tabOk.cv 74 120 77 2 rfl)) (hd 9 (by decide)) ?_
    refine WPL_op (op_call_id (.func 83) (.tmp 9) 83 _ rfl (tabOk.ei 83 rfl)) (hd 10 (by decide)) ?_
    refine WPL_op (op_convert_ptr 120 74 (.tmp 10) s 77 _ rfl hst (tabOk.cv 120 74 77 2 rfl)) (hd 11 (by decide)) ?_
    refine WPL_op (op_nilCheck_ptr (.tmp 7) s 0 rfl) (hd 12 (by decide)) ?_
    refine WPL_op (op_fieldAddr_ptr 77 (.tmp 12) 0 s 0 0 (tabOk.fo _ _ _ rfl) rfl) (hd 13 (by decide)) ?_
    refine WPL_op (op_store_ptr1 74 (.tmp 13) (.tmp 11) s 0 (.ptr s 0) _ (tabOk.ld _ _ rfl) rfl rfl hst rfl (by simp)) hn (WPL_nil ?_)
    exact ⟨rfl, [], rfl, trivial⟩
  · refine WPL_op (op_peql_nil 74 _ (.tmp 5) _ s 0 (tabOk.pt _ rfl) rfl rfl) (hd 6 (by decide)) (WPL_nil ?_)
    refine WP_cond_f rfl (WP_seq (WP_region ?_))
    refine WPL_op (op_move (.tmp 0)) (hd 14 (by decide)) ?_
    refine WPL_op (op_nilCheck_ptr (.tmp 14) s 0 rfl) (hd 15 (by decide)) ?_
    refine WPL_op (op_fieldAddr_ptr 77 (.tmp 15) 0 s 0 0 (tabOk.fo _ _ _ rfl) rfl) (hd 16 (by decide)) ?_
    refine WPL_op (op_load_ptr1 74 (.tmp 16) 1 s 0 (.ptr s 0) _ (tabOk.ld _ _ rfl) rfl hst rfl) (hd 17 (by decide)) ?_
    refine WPL_op (op_move (.tmp 0)) (hd 18 (by decide)) ?_
    refine WPL_op (op_pneq_same 74 _ (.tmp 17) (.tmp 18) s 0 (tabOk.pt _ rfl) rfl rfl) (hd 19 (by decide)) (WPL_nil ?_)
    refine WP_cond_f rfl (WP_skip ?_)
    refine ⟨?_, [], rfl, trivial⟩
    rw [← List.getElem?_eq_some_iff.1 hst |>.2]
    simp

/-- a builder that holds these bytes -/
inductive BuilderOf (st : List AO) (s : Nat) : List (List D) → Prop
  | new {a : AV} (h : st[s]? = some (.box 77 [a, .nils])) (ha : a = .sc (.pointer none) ∨ a = .ptr s 0) : BuilderOf st s []
  | used {r k : Nat} {xs : List (List D)} (h : st[s]? = some (.box 77 [.ptr s 0, .h r k 0 xs.length])) (hr : st[r]? = some (.row k 5 1 xs)) : BuilderOf st s xs

theorem write_new {st : List AO} {s : Nat} {a : AV} (hst : st[s]? = some (.box 77 [a, .nils])) (ha : a = .sc (.pointer none) ∨ a = .ptr s 0) (x : ByteArray) (hx : x.size ≤ 140737488351232) :
    Eff Try.prog 39 [.ptr s 0, .str x] st [.one (.sc (.int .i64 x.size)), .one (.sc .nilIface)] (st.set s (.box 77 [.ptr s 0, .h st.length 0 0 x.size]) ++ [.row 0 5 1 (strRows x)]) := by
  have hlt : s < st.length := (List.getElem?_eq_some_iff.1 hst).1
  have hd : ∀ k : Nat, k < 19 → ∀ d, some k = some d → d < 19 := fun k hk d e => by cases e; exact hk
  have hn : ∀ d, none = some d → d < 19 := fun d e => by cases e
  have hst' : (st.set s (.box 77 [.ptr s 0, .nils]))[s]? = some (.box 77 [.ptr s 0, .nils]) := by simp [hlt]
  refine eff_vc0 Try.func39 rfl rfl (by exact Nat.le_of_ble_eq_true rfl) ?_
  refine WP_seq (WP_region ?_)
  refine WPL_op (op_assign _) (hd 4 (by decide)) ?_
  refine WPL_op (op_assign _) (hd 5 (by decide)) (WPL_nil ?_)
  refine WP_seq (WP_region ?_)
  refine WPL_op (op_move (.tmp 0)) (hd 6 (by decide)) ?_
  refine WPL_op (op_calleff (.func 64) 64 _ _ [.ptr s 0] [] _ rfl (tabOk.cl _ rfl) rfl (copyCheck_eff hst ha)) (hd 7 (by decide)) (WPL_nil ?_)
  refine WP_seq (WP_region ?_)
  refine WPL_op (op_move (.tmp 0)) (hd 8 (by decide)) ?_
  refine WPL_op (op_move (.tmp 0)) (hd 9 (by decide)) ?_
  refine WPL_op (op_nilCheck_ptr (.tmp 9) s 0 rfl) (hd 10 (by decide)) ?_
  refine WPL_op (op_fieldAddr_ptr 77 (.tmp 10) 1 s 0 1 (tabOk.fo _ _ _ rfl) rfl) (hd 11 (by decide)) ?_
  refine WPL_op (op_load_ptr1 75 (.tmp 11) 1 s 1 .nils _ (tabOk.ld _ _ rfl) rfl hst' rfl) (hd 12 (by decide)) ?_
  refine WPL_op (op_move (.tmp 1)) (hd 13 (by decide)) ?_
  refine WPL_op (op_appendS_nils 75 9 5 (.tmp 12) (.tmp 13) x (tabOk.bb _ _ rfl) (tabOk.kstr _ rfl) rfl rfl hx) (hd 14 (by decide)) ?_
  refine WPL_op (op_nilCheck_ptr (.tmp 8) s 0 rfl) (hd 15 (by decide)) ?_
  refine WPL_op (op_fieldAddr_ptr 77 (.tmp 15) 1 s 0 1 (tabOk.fo _ _ _ rfl) rfl) (hd 16 (by decide)) ?_
  have hst2 : (st.set s (.box 77 [.ptr s 0, .nils]) ++ [AO.row 0 5 1 (strRows x)])[s]? = some (.box 77 [.ptr s 0, .nils]) := by
    rw [List.getElem?_append_left (by simpa using hlt)]; exact hst'
  refine WPL_op (op_store_ptr1 75 (.tmp 16) (.tmp 14) s 1 (.h (st.set s (.box 77 [.ptr s 0, .nils])).length 0 0 (strRows x).length) _ (tabOk.ld _ _ rfl) rfl rfl hst2 ?_ (by simp)) hn (WPL_nil ?_)
  · simp [okSingle]
  refine WP_seq (WP_region ?_)
  refine WPL_op (op_move (.tmp 1)) (hd 17 (by decide)) ?_
  refine WPL_op (op_len 9 (.tmp 17) x.size (.str (tabOk.kstr _ rfl))) (hd 18 (by decide)) ?_
  refine WPL_op (op_assign _) (hd 4 (by decide)) ?_
  refine WPL_op (op_assign _) (hd 5 (by decide)) (WPL_nil ?_)
  refine WP_ret ⟨?_, _, rfl, AsLe.refl _⟩
  rw [strRows_length, List.set_append_left _ _ (by simpa using hlt), List.length_set, List.set_set]
  rfl

theorem write_used {st : List AO} {s r k : Nat} {xs : List (List D)} (hst : st[s]? = some (.box 77 [.ptr s 0, .h r k 0 xs.length])) (hr : st[r]? = some (.row k 5 1 xs)) (x : ByteArray) (hx : xs.length + x.size ≤ 140737488351232) :
    Eff Try.prog 39 [.ptr s 0, .str x] st [.one (.sc (.int .i64 x.size)), .one (.sc .nilIface)] ((st.set r (.row (k + 1) 5 1 (xs ++ strRows x))).set s (.box 77 [.ptr s 0, .h r (k + 1) 0 (xs.length + x.size)])) := by
  have hlt : s < st.length := (List.getElem?_eq_some_iff.1 hst).1
  have hltr : r < st.length := (List.getElem?_eq_some_iff.1 hr).1
  have hne : r ≠ s := fun e => by subst e; rw [hst] at hr; cases hr
  have hd : ∀ k : Nat, k < 19 → ∀ d, some k = some d → d < 19 := fun k hk d e => by cases e; exact hk
  have hn : ∀ d, none = some d → d < 19 := fun d e => by cases e
  have hcc := copyCheck_eff hst (.inr rfl)
  have hself : st.set s (.box 77 [.ptr s 0, .h r k 0 xs.length]) = st := by
    conv => rhs; rw [← List.set_getElem_self hlt]
    rw [← (List.getElem?_eq_some_iff.1 hst).2]
  rw [hself] at hcc
  refine eff_vc0 Try.func39 rfl rfl (by exact Nat.le_of_ble_eq_true rfl) ?_
  refine WP_seq (WP_region ?_)
  refine WPL_op (op_assign _) (hd 4 (by decide)) ?_
  refine WPL_op (op_assign _) (hd 5 (by decide)) (WPL_nil ?_)
  refine WP_seq (WP_region ?_)
  refine WPL_op (op_move (.tmp 0)) (hd 6 (by decide)) ?_
  refine WPL_op (op_calleff (.func 64) 64 _ _ [.ptr s 0] [] _ rfl (tabOk.cl _ rfl) rfl hcc) (hd 7 (by decide)) (WPL_nil ?_)
  refine WP_seq (WP_region ?_)
  refine WPL_op (op_move (.tmp 0)) (hd 8 (by decide)) ?_
  refine WPL_op (op_move (.tmp 0)) (hd 9 (by decide)) ?_
  refine WPL_op (op_nilCheck_ptr (.tmp 9) s 0 rfl) (hd 10 (by decide)) ?_
  refine WPL_op (op_fieldAddr_ptr 77 (.tmp 10) 1 s 0 1 (tabOk.fo _ _ _ rfl) rfl) (hd 11 (by decide)) ?_
  refine WPL_op (op_load_ptr1 75 (.tmp 11) 1 s 1 (.h r k 0 xs.length) _ (tabOk.ld _ _ rfl) rfl hst rfl) (hd 12 (by decide)) ?_
  refine WPL_op (op_move (.tmp 1)) (hd 13 (by decide)) ?_
  refine WPL_op (op_appendS_h 75 9 5 (.tmp 12) (.tmp 13) x r k xs.length xs (tabOk.bb _ _ rfl) (tabOk.kstr _ rfl) rfl hr rfl hx) (hd 14 (by decide)) ?_
  refine WPL_op (op_nilCheck_ptr (.tmp 8) s 0 rfl) (hd 15 (by decide)) ?_
  refine WPL_op (op_fieldAddr_ptr 77 (.tmp 15) 1 s 0 1 (tabOk.fo _ _ _ rfl) rfl) (hd 16 (by decide)) ?_
  have hst2 : (st.set r (.row (k + 1) 5 1 (xs.take xs.length ++ strRows x)))[s]? = some (.box 77 [.ptr s 0, .h r k 0 xs.length]) := by
    rw [List.getElem?_set_ne hne]; exact hst
  refine WPL_op (op_store_ptr1 75 (.tmp 16) (.tmp 14) s 1 (.h r (k + 1) 0 (xs.length + (strRows x).length)) _ (tabOk.ld _ _ rfl) rfl rfl hst2 ?_ (by simp)) hn (WPL_nil ?_)
  · simp [okSingle, hltr]
  refine WP_seq (WP_region ?_)
  refine WPL_op (op_move (.tmp 1)) (hd 17 (by decide)) ?_
  refine WPL_op (op_len 9 (.tmp 17) x.size (.str (tabOk.kstr _ rfl))) (hd 18 (by decide)) ?_
  refine WPL_op (op_assign _) (hd 4 (by decide)) ?_
  refine WPL_op (op_assign _) (hd 5 (by decide)) (WPL_nil ?_)
  refine WP_ret ⟨?_, _, rfl, AsLe.refl _⟩
  rw [strRows_length, List.take_length]
  rfl

end Go.Proofs.Nw.K
