/- K6: lists: length, elements, pieces, append; structs built; results apart. -/
import Derived.Test.YtjfpnnmagnljnaaNwK5
import Derived.Maps.AppendAt
open Go Go.RowKit
set_option linter.unusedVariables false
set_option linter.unusedSimpArgs false
namespace Go.Proofs.Nw.K

theorem list_val {σ : Sig} {gh st} {u : Value} {sz : Nat} {xs : List (List D)} (h : RepA σ gh st u (.list sz xs)) : ∃ A c, u = .slice A xs.length c ∧ c ≤ maxLen := by
  have h : Rep σ u (.list sz xs) := h
  cases h with
  | nil hm => exact ⟨_, _, rfl, hm⟩
  | list val hn h0 hc hm _ _ _ => exact ⟨_, _, by rw [hn], hm⟩

theorem nils_val {σ : Sig} {gh st} {u : Value} (h : RepA σ gh st u .nils) : u = .slice none 0 0 := by
  have h : Rep σ u .nils := h
  cases h with
  | nils => rfl

theorem HRep_val {g : Value} {sz len lo n : Nat} {v : Value} (h : HRep g sz len lo n v) (hg : ∃ A c, g = .slice A len c) : ∃ A c, v = .slice A n c := by
  obtain ⟨h0, ⟨h1, h2, h3⟩ | ⟨b, m, c, h1, h2, ⟨h3, _, a, h4⟩ | h3⟩⟩ := h
  · obtain ⟨A, c, e⟩ := hg; exact ⟨A, c, by rw [h3, e, h2]⟩
  · subst h3; exact ⟨_, _, h4⟩
  · exact ⟨_, _, h3⟩

section
variable {P : Program} {E : Operand → AV} {st : List AO}

theorem row_val {w0 : World} {σ0 σ gh w} (hb : Base w0 σ0 σ gh st w) {s k e sz : Nat} {xs} (hst : st[s]? = some (.row k e sz xs)) {g : Value} (hg : gh[s]? = some g) : ∃ A c, g = .slice A xs.length c ∧ xs.length ≤ c := by
  obtain ⟨vals, h1, _⟩ := hb.obj s _ _ hst hg
  rcases h1.2 with ⟨rfl, h⟩ | ⟨b, cap, cur, rfl, _, _, h, _⟩
  · exact ⟨none, 0, by rw [h], by omega⟩
  · exact ⟨_, _, rfl, h⟩

theorem h_val {w0 : World} {σ0 σ gh w} (hb : Base w0 σ0 σ gh st w) {s k lo n e sz : Nat} {xs} (hst : st[s]? = some (.row k e sz xs)) {u : Value} (h : RepA σ gh st u (.h s k lo n)) : ∃ g, gh[s]? = some g ∧ HRep g sz xs.length lo n u ∧ ∃ A c, u = .slice A n c := by
  obtain ⟨g, o, h1, h2, h3⟩ := h
  rw [hst] at h2
  cases h2
  obtain ⟨_, h4⟩ := h3 _ _ _ _ rfl
  obtain ⟨A, c, hv, _⟩ := row_val hb hst h1
  exact ⟨g, h1, h4 rfl, HRep_val (h4 rfl) ⟨A, c, hv⟩⟩

/-- how long -/
inductive LenOf (P : Program) (st : List AO) (t : TypeId) : AV → Nat → Prop
  | list {e sz xs} (h : P.underlying t = some (.slice e)) : LenOf P st t (.list sz xs) xs.length
  | nils {e} (h : P.underlying t = some (.slice e)) : LenOf P st t .nils 0
  | h {e s k lo n e' sz xs} (h : P.underlying t = some (.slice e)) (hst : st[s]? = some (.row k e' sz xs)) : LenOf P st t (.h s k lo n) n
  | str {s} (h : P.underlying t = some .string) : LenOf P st t (.str s) s.size

theorem op_len (t : TypeId) (x : Operand) (n : Nat) (hl : LenOf P st t (E x) n) : OpS P (.call { callee := .builtin .len, args := #[x], argTypes := #[t] }) E st (.int n) st :=
  op_pure fun o ho w0 σ0 σ gh ρ w hb hρ => by
    have h1 := hρ x (by simp [Op.operands, Call.operands])
    refine ⟨.int .i64 n, ?_, RepA_of_sc rfl⟩
    generalize E x = a at *
    cases hl with
    | list hu => obtain ⟨A, c, hv, _⟩ := list_val h1; simp [execOp, ho, resolve, invoke, builtin, Builtin.len_, run_underlying hu, hv, goInt]
    | nils hu => have hv := nils_val h1; simp [execOp, ho, resolve, invoke, builtin, Builtin.len_, run_underlying hu, hv, goInt]
    | h hu hst => obtain ⟨g, _, _, A, c, hv⟩ := h_val hb hst h1; simp [execOp, ho, resolve, invoke, builtin, Builtin.len_, run_underlying hu, hv, goInt]
    | str hu => have hv := RepA_sc h1; simp [execOp, ho, resolve, invoke, builtin, Builtin.len_, run_underlying hu, hv, goInt]

/-- a byte of a string -/
def bt (s : ByteArray) (n : Nat) : Int := ((s.data[n]?).getD 0).toNat

theorem op_index_str (t : TypeId) (x i : Operand) (k : IntKind) (n : Int) (s : ByteArray) (hu : P.underlying t = some .string) (hx : E x = .str s) (hi : E i = .sc (.int k n)) (h0 : 0 ≤ n) (h1 : n < s.size) :
    OpS P (.index t x i) E st (.byte (bt s n.toNat)) st :=
  op_pure fun o ho w0 σ0 σ gh ρ w hb hρ => by
    have h2 := hρ x (by simp [Op.operands])
    have h3 := hρ i (by simp [Op.operands])
    rw [hx] at h2
    rw [hi] at h3
    have hlt : n.toNat < s.size := by omega
    refine ⟨.int .u8 (bt s n.toNat), ?_, RepA_of_sc rfl⟩
    have hget : s[n.toNat]? = some s[n.toNat] := by simp [hlt]
    have hbt : bt s n.toNat = (s[n.toNat].toNat : Int) := by
      unfold bt
      have : s.data[n.toNat]? = some s[n.toNat] := by
        rw [Array.getElem?_eq_getElem (by simpa using hlt)]; rfl
      rw [this]; rfl
    simp [execOp, ho, RepA_sc h2, RepA_sc h3, Instr.index, asIntOf, run_underlying hu, h0, hget, hbt]

/-- a piece of a string -/
theorem op_slice_str (t : TypeId) (x : Operand) (lo hi : Option Operand) (l h : Nat) (s : ByteArray) (hu : P.underlying t = some .string) (hx : E x = .str s)
    (hl : match lo with | some o => ∃ n : Int, E o = .int n ∧ 0 ≤ n ∧ n.toNat = l | none => l = 0) (hh : match hi with | some o => ∃ n : Int, E o = .int n ∧ 0 ≤ n ∧ n.toNat = h | none => h = s.size)
    (h1 : l ≤ h) (h2 : h ≤ s.size) : OpS P (.slice t x lo hi none) E st (.str (s.extract l h)) st :=
  op_pure fun o ho w0 σ0 σ gh ρ w hb hρ => by
    have h3 := hρ x (by simp [Op.operands])
    rw [hx] at h3
    refine ⟨.string (s.extract l h), ?_, RepA_of_sc rfl⟩
    cases lo with
    | none =>
      simp only at hl
      subst hl
      cases hi with
      | none =>
        simp only at hh
        subst hh
        simp [execOp, ho, RepA_sc h3, Instr.sliceAt, Instr.slice, Instr.sliceBounds, run_underlying hu]
      | some oh =>
        obtain ⟨n, e1, e2, e3⟩ := hh
        have h4 := hρ oh (by simp [Op.operands])
        rw [e1] at h4
        have : n ≤ (s.size : Int) := by omega
        simp [execOp, ho, RepA_sc h3, RepA_sc h4, Instr.sliceAt, Instr.slice, Instr.sliceBounds, Instr.sliceBound, asIntOf, run_underlying hu, e2, this, e3]
    | some ol =>
      obtain ⟨m, f1, f2, f3⟩ := hl
      have h5 := hρ ol (by simp [Op.operands])
      rw [f1] at h5
      cases hi with
      | none =>
        simp only at hh
        subst hh
        have : m ≤ (s.size : Int) := by omega
        simp [execOp, ho, RepA_sc h3, RepA_sc h5, Instr.sliceAt, Instr.slice, Instr.sliceBounds, Instr.sliceBound, asIntOf, run_underlying hu, f2, this, f3]
      | some oh =>
        obtain ⟨n, e1, e2, e3⟩ := hh
        have h4 := hρ oh (by simp [Op.operands])
        rw [e1] at h4
        have : n ≤ (s.size : Int) := by omega
        have : m ≤ (h : Int) := by omega
        simp [execOp, ho, RepA_sc h3, RepA_sc h4, RepA_sc h5, Instr.sliceAt, Instr.slice, Instr.sliceBounds, Instr.sliceBound, asIntOf, run_underlying hu, e2, f2, f3, e3, *]

/-- the run of a slice expression on a slice -/
theorem run_sliceAt {t e : TypeId} {ρ : Operand → Value} {w : World} (hu : P.underlying t = some (.slice e)) (sz : Nat) (hs : (sizeOf e).run P w = .ok sz w) (A : Option Addr) (len cap : Nat) (lo hi : Option Operand) (l h : Nat)
    (hl : match lo with | some o => ∃ n : Int, ρ o = .int .i64 n ∧ 0 ≤ n ∧ n.toNat = l | none => l = 0) (hh : match hi with | some o => ∃ n : Int, ρ o = .int .i64 n ∧ 0 ≤ n ∧ n.toNat = h | none => h = len)
    (h1 : l ≤ h) (h2 : h ≤ cap) : (Instr.sliceAt t (.slice A len cap) (lo.map ρ) (hi.map ρ) none).run P w = .ok (.slice (if cap = l then A else A.map (·.add (l * sz))) (h - l) (cap - l)) w := by
  cases lo with
  | none =>
    simp only at hl
    subst hl
    cases hi with
    | none =>
      simp only at hh
      subst hh
      simp [Instr.sliceAt, Instr.slice, Instr.sliceBounds, run_underlying hu, hs]
    | some oh =>
      obtain ⟨n, e1, e2, e3⟩ := hh
      have : n ≤ (cap : Int) := by omega
      simp [Instr.sliceAt, Instr.slice, Instr.sliceBounds, Instr.sliceBound, asIntOf, run_underlying hu, e1, e2, this, e3, hs]
  | some ol =>
    obtain ⟨m, f1, f2, f3⟩ := hl
    cases hi with
    | none =>
      simp only at hh
      subst hh
      have : m ≤ (h : Int) := by omega
      simp [Instr.sliceAt, Instr.slice, Instr.sliceBounds, Instr.sliceBound, asIntOf, run_underlying hu, f1, f2, this, f3, hs]
    | some oh =>
      obtain ⟨n, e1, e2, e3⟩ := hh
      have : n ≤ (cap : Int) := by omega
      have : m ≤ (h : Int) := by omega
      simp [Instr.sliceAt, Instr.slice, Instr.sliceBounds, Instr.sliceBound, asIntOf, run_underlying hu, e1, f1, e2, f2, f3, e3, hs, *]

/-- bounds of a slice expression -/
def loIs (E : Operand → AV) (l : Nat) : Option Operand → Prop
  | some o => ∃ n : Int, E o = .int n ∧ 0 ≤ n ∧ n.toNat = l
  | none => l = 0
def hiIs (E : Operand → AV) (len h : Nat) : Option Operand → Prop
  | some o => ∃ n : Int, E o = .int n ∧ 0 ≤ n ∧ n.toNat = h
  | none => h = len

theorem rep_piece {σ : Sig} {u : Value} {sz : Nat} {xs : List (List D)} (h : Rep σ u (.list sz xs)) {l h' : Nat} (h1 : l ≤ h') (h2 : h' ≤ xs.length) :
    ∃ A c, u = .slice A xs.length c ∧ xs.length ≤ c + 0 ∧ Rep σ (.slice (if c = l then A else A.map (·.add (l * sz))) (h' - l) (c - l)) (.list sz ((xs.take h').drop l)) := by
  cases h with
  | nil hm =>
    simp at h2
    subst h2
    have : l = 0 := by omega
    subst this
    exact ⟨_, _, rfl, by simp, by simpa using Rep.nil (by omega)⟩
  | @list b off n c _ _ val hn h0 hc hm hsz hcell hval =>
    subst hn
    refine ⟨_, _, rfl, by omega, ?_⟩
    by_cases e : h' = l
    · subst e
      have : (xs.take h').drop h' = [] := by simp
      rw [this, Nat.sub_self]
      exact .nil (by omega)
    · have hcl : c ≠ l := by omega
      rw [if_neg hcl]
      simp only [Option.map_some, add_lit]
      refine .list (fun i j => val (l + i) j) (by simp; omega) (by omega) (by omega) (by omega) (fun i x hx => ?_) (fun i j hi hj => ?_) (fun i j x d hx hd => ?_)
      · rw [List.getElem?_drop, List.getElem?_take] at hx
        split at hx
        · exact hsz _ x hx
        · cases hx
      · rw [show off + l * sz + i * sz + j = off + (l + i) * sz + j by rw [Nat.add_mul]; omega]
        exact hcell (l + i) j (by omega) hj
      · rw [List.getElem?_drop, List.getElem?_take] at hx
        split at hx
        · exact hval _ j x d hx hd
        · cases hx

theorem op_slice_list (t e : TypeId) (sz : Nat) (x : Operand) (lo hi : Option Operand) (l h : Nat) (xs : List (List D)) (ht : elT P t = some (e, sz)) (hx : E x = .list sz xs)
    (hl : loIs E l lo) (hh : hiIs E xs.length h hi) (h1 : l ≤ h) (h2 : h ≤ xs.length) : OpS P (.slice t x lo hi none) E st (.list sz ((xs.take h).drop l)) st :=
  op_pure fun o ho w0 σ0 σ gh ρ w hb hρ => by
    have h3 := hρ x (by simp [Op.operands])
    rw [hx] at h3
    obtain ⟨hu, i, hi', hs⟩ := elT_spec ht
    obtain ⟨A, c, hv, hc, hr⟩ := rep_piece (h3 : Rep σ (ρ x) (.list sz xs)) h1 h2
    have hrun := run_sliceAt (P := P) (ρ := ρ) (w := w) hu sz (by simp [sizeOf, typeInfo, hi', hs]) A xs.length c lo hi l h ?_ ?_ h1 (by omega)
    · exact ⟨_, by simp [execOp, ho, hv, hrun], hr⟩
    · cases lo with
      | none => exact hl
      | some ol =>
        obtain ⟨m, f1, f2, f3⟩ := hl
        have h5 := hρ ol (by simp [Op.operands])
        rw [f1] at h5
        exact ⟨m, RepA_sc h5, f2, f3⟩
    · cases hi with
      | none => exact hh
      | some ol =>
        obtain ⟨m, f1, f2, f3⟩ := hh
        have h5 := hρ ol (by simp [Op.operands])
        rw [f1] at h5
        exact ⟨m, RepA_sc h5, f2, f3⟩

theorem op_slice_h (t e : TypeId) (sz : Nat) (x : Operand) (lo hi : Option Operand) (l h s k off n e' : Nat) (xs : List (List D)) (ht : elT P t = some (e, sz)) (hx : E x = .h s k off n) (hst : st[s]? = some (.row k e' sz xs))
    (hl : loIs E l lo) (hh : hiIs E n h hi) (h1 : l ≤ h) (h2 : h ≤ n) : OpS P (.slice t x lo hi none) E st (.h s k (off + l) (h - l)) st :=
  op_pure fun o ho w0 σ0 σ gh ρ w hb hρ => by
    have h3 := hρ x (by simp [Op.operands])
    rw [hx] at h3
    obtain ⟨hu, i, hi', hs⟩ := elT_spec ht
    obtain ⟨g, hg, hR, A, c, hv⟩ := h_val hb hst h3
    obtain ⟨A', c', hgv, hc'⟩ := row_val hb hst hg
    have hcn : n ≤ c := by
      obtain ⟨h0, ⟨a1, a2, a3⟩ | ⟨b, m, c2, a1, a2, ⟨a3, _, a, a4⟩ | a3⟩⟩ := hR
      · rw [hv, hgv] at a3; cases a3; omega
      · omega
      · rw [hv] at a3; cases a3; omega
    have hrun := run_sliceAt (P := P) (ρ := ρ) (w := w) hu sz (by simp [sizeOf, typeInfo, hi', hs]) A n c lo hi l h ?_ ?_ h1 (by omega)
    · refine ⟨_, by simp [execOp, ho, hv, hrun]; rfl, g, _, hg, hst, fun k' e2 sz2 xs2 heq => ?_⟩
      cases heq
      refine ⟨Nat.le_refl _, fun _ => ?_⟩
      obtain ⟨h0, hR⟩ := hR
      refine ⟨by omega, ?_⟩
      rcases hR with ⟨a1, a2, a3⟩ | ⟨b, m, c2, a1, a2, ⟨a3, a5, a, a4⟩ | a3⟩
      · rw [hv, hgv] at a3
        cases a3
        subst a1
        obtain ⟨vals, hown, _⟩ := hb.obj s _ _ hst hg
        rcases hown.2 with ⟨e1, e2⟩ | ⟨b, cap, cur, e1, _⟩
        · rw [hgv] at e1
          injection e1 with e3 e4 e5
          have : l = 0 := by omega
          have : h = 0 := by omega
          subst l h
          refine .inl ⟨by simp, by omega, ?_⟩
          rw [hgv, e3, e4, e5]
          simp
        · rw [hgv] at e1
          injection e1 with e3 e4 e5
          subst e3
          by_cases e0 : l = 0 ∧ h = xs.length
          · obtain ⟨e0, e0'⟩ := e0
            subst e0 e0'
            refine .inl ⟨by simp, by omega, ?_⟩
            rw [hgv]
            split <;> simp [add_lit]
          · refine .inr ⟨b, xs.length, c, hgv, by omega, ?_⟩
            split
            · rename_i hcl
              exact .inl ⟨by omega, by omega, _, by rw [Nat.zero_add]; congr 1; omega⟩
            · exact .inr (by simp [add_lit])
      · subst a3
        have : l = 0 := by omega
        have : h = 0 := by omega
        subst l h
        rw [hv] at a4
        cases a4
        exact .inr ⟨b, m, c2, a1, by omega, .inl ⟨by omega, by omega, _, by simp; rfl⟩⟩
      · rw [hv] at a3
        cases a3
        by_cases hcl : c2 - off = l
        · rw [if_pos hcl]
          by_cases hz : off + l = 0
          · refine .inr ⟨b, m, c2, a1, by omega, .inr ?_⟩
            have e1 : off = 0 := by omega
            have e2 : l = 0 := by omega
            subst e1 e2
            simp
          · exact .inr ⟨b, m, c2, a1, by omega, .inl ⟨by omega, by omega, _, by rw [Nat.sub_sub]; congr 1; omega⟩⟩
        · rw [if_neg hcl]
          refine .inr ⟨b, m, c2, a1, by omega, .inr ?_⟩
          simp only [Option.map_some, add_lit, Nat.zero_add]
          rw [Nat.sub_sub, Nat.add_mul]
    · cases lo with
      | none => exact hl
      | some ol =>
        obtain ⟨m, f1, f2, f3⟩ := hl
        have h5 := hρ ol (by simp [Op.operands])
        rw [f1] at h5
        exact ⟨m, RepA_sc h5, f2, f3⟩
    · cases hi with
      | none => exact hh
      | some ol =>
        obtain ⟨m, f1, f2, f3⟩ := hh
        have h5 := hρ ol (by simp [Op.operands])
        rw [f1] at h5
        exact ⟨m, RepA_sc h5, f2, f3⟩

end
end Go.Proofs.Nw.K
