/- K9: operations: build, buildSlice, extract, convert, elements of rows. -/
import Derived.Test.YtjfpnnmagnljnaaNwK8
open Go Go.RowKit
set_option linter.unusedVariables false
set_option linter.unusedSimpArgs false
namespace Go.Proofs.Nw.K

/-- the zero of a type, cell by cell -/
def zeroD (P : Program) (t : TypeId) : Option (List D) :=
  match P.info? t with
  | some i => match i.zero with
    | some z => if z.cells.toList.all (fun c => match c with | .slice none 0 0 => true | v => scal v) then some (z.cells.toList.map cD) else none
    | none => none
  | none => none

theorem zeroD_spec {P : Program} {t : TypeId} {zs : List D} (h : zeroD P t = some zs) : ∃ i z, P.info? t = some i ∧ i.zero = some z ∧ ∀ σ, RepL σ z.cells.toList zs := by
  unfold zeroD at h
  split at h
  · rename_i i hi
    split at h
    · rename_i z hz
      split at h
      · rename_i hall
        cases h
        refine ⟨i, z, hi, hz, fun σ => ⟨by simp, fun j v d hv hd => ?_⟩⟩
        simp only [List.getElem?_map, Option.map_eq_some_iff] at hd
        obtain ⟨v', hv', rfl⟩ := hd
        rw [hv] at hv'
        cases hv'
        exact rep_cD (List.all_eq_true.1 hall v (List.mem_of_getElem? hv))
      · cases h
    · cases h
  · cases h

def fieldPlaces (P : Program) : List Field → Option (List (Nat × Nat))
  | [] => some []
  | f :: r => match P.info? f.type, fieldPlaces P r with
    | some i, some ps => some ((f.offset, i.size) :: ps)
    | _, _ => none

theorem fieldPlaces_run {P : Program} : ∀ {fs : List Field} {ps : List (Nat × Nat)} (h : fieldPlaces P fs = some ps) (w : World),
    (fs.mapM (fun f => do pure (f.offset, ← sizeOf f.type) : Field → Sem (Nat × Nat))).run P w = .ok ps w
  | [], ps, h, w => by cases h; simp
  | f :: r, ps, h, w => by
    unfold fieldPlaces at h
    split at h
    · rename_i i ps' hi hps
      cases h
      simp [List.mapM_cons, sizeOf, typeInfo, hi, fieldPlaces_run hps w]
      have := fieldPlaces_run hps w
      simp [sizeOf, typeInfo] at this
      simp [this]
    · cases h

def buildT (P : Program) (t : TypeId) : Option (List (Nat × Nat)) :=
  match P.underlying t with
  | some (.struct fs) => fieldPlaces P fs.toList
  | _ => none

section
variable {P : Program} {E : Operand → AV} {st : List AO}

theorem parts_rep {σ : Sig} {gh} (ρ : Operand → Value) (parts : List (Nat × Operand)) (hρ : ∀ x ∈ parts.map (·.2), RepA σ gh st (ρ x) (E x)) :
    ∀ (j : Nat) x y, (parts.map fun p => (p.1, ρ p.2))[j]? = some x → (parts.map fun p => (p.1, E p.2))[j]? = some y → x.1 = y.1 ∧ RepA σ gh st x.2 y.2 := by
  intro j x y hx hy
  simp only [List.getElem?_map, Option.map_eq_some_iff] at hx hy
  obtain ⟨p, hp, rfl⟩ := hx
  obtain ⟨q, hq, rfl⟩ := hy
  rw [hp] at hq
  cases hq
  exact ⟨rfl, hρ _ (List.mem_map.2 ⟨p, List.mem_of_getElem? hp, rfl⟩)⟩

theorem op_build (t : TypeId) (parts : Array (Nat × Operand)) (zs ds : List D) (ps : List (Nat × Nat)) (hz : zeroD P t = some zs) (hp : buildT P t = some ps)
    (hf : fillD (ps[·]?) zs (parts.toList.map fun p => (p.1, E p.2)) = some ds) : OpS P (.build t parts) E st (.agg ds) st :=
  op_pure fun o ho w0 σ0 σ gh ρ w hb hρ => by
    obtain ⟨i, z, hi, hz', hrz⟩ := zeroD_spec hz
    unfold buildT at hp
    split at hp <;> try cases hp
    rename_i fs hu
    have hpr := parts_rep (E := E) (st := st) (σ := σ) (gh := gh) ρ parts.toList (fun x hx => hρ x (by simpa [Op.operands] using hx))
    obtain ⟨cs', h1, h2⟩ := fill_rep (σ := σ) (gh := gh) (st := st) (ps[·]?) _ _ z.cells zs ds (by simp) hpr (hrz σ) hf
    refine ⟨.agg cs', ?_, cs'.toList, by simp, h2⟩
    have hm := fieldPlaces_run hp w
    have hm' : (fs.mapM (fun f => do pure (f.offset, ← sizeOf f.type) : Field → Sem (Nat × Nat))).run P w = .ok ps.toArray w := by
      rw [Array.mapM_eq_mapM_toList, Sem.run_map, hm]; rfl
    have hpp : (parts.map fun p => (p.1, ρ p.2)).toList = parts.toList.map fun p => (p.1, ρ p.2) := by simp
    simp only [execOp, ho, Instr.build, zeroValue, typeInfo, Sem.run_bind, run_program, Result.andThen_ok, hi, Sem.run_pure, hz', run_underlying hu, hm']
    have h1' : Instr.fill (fun x => ps.toArray[x]?) z.cells (parts.map fun p => (p.1, ρ p.2)).toList = some cs' := by rw [hpp]; simpa using h1
    simp [h1]

/-- cut into rows -/
def chunk (sz : Nat) (ds : List D) : Nat → List (List D)
  | 0 => []
  | n + 1 => ds.take sz :: chunk sz (ds.drop sz) n

theorem chunk_get (sz : Nat) : ∀ (n : Nat) (ds : List D) (i : Nat) x, (chunk sz ds n)[i]? = some x → i < n ∧ x = (ds.drop (i * sz)).take sz
  | 0, ds, i, x, h => by simp [chunk] at h
  | n + 1, ds, i, x, h => by
    cases i with
    | zero => simp [chunk] at h; subst h; simp
    | succ i =>
      simp only [chunk, List.getElem?_cons_succ] at h
      obtain ⟨h1, h2⟩ := chunk_get sz n _ i x h
      refine ⟨by omega, ?_⟩
      rw [h2, List.drop_drop]
      congr 2
      rw [Nat.add_mul]; omega

theorem chunk_length (sz : Nat) : ∀ (n : Nat) (ds : List D), (chunk sz ds n).length = n
  | 0, _ => rfl
  | n + 1, ds => by simp [chunk, chunk_length sz n]

theorem op_buildSlice (t e : TypeId) (sz len : Nat) (parts : Array (Nat × Operand)) (zs ds : List D) (ht : elT P t = some (e, sz)) (hz : zeroD P e = some zs) (hzl : zs.length = sz) (hpos : 0 < len * sz) (hmax : len * sz ≤ 16777216)
    (hf : fillD (fun i => some (i * sz, sz)) ((List.range (len * sz)).map fun i => zs.getD (i % sz) .nils) (parts.toList.map fun p => (p.1, E p.2)) = some ds) (hdl : ds.length = len * sz) :
    OpS P (.buildSlice t len parts) E st (.d (.full sz (chunk sz ds len))) st := by
  intro o ho w0 σ0 σ gh ρ w hb hρ
  obtain ⟨i, z, hi, hz', hrz⟩ := zeroD_spec hz
  obtain ⟨hu, i', hi', hsz⟩ := elT_spec ht
  rw [hi] at hi'
  cases hi'
  have hpr := parts_rep (E := E) (st := st) (σ := σ) (gh := gh) ρ parts.toList (fun x hx => hρ x (by simpa [Op.operands] using hx))
  have hzr := hrz σ
  have hzs : z.cells.size = sz := by have := hzr.1; simpa [hzl] using this
  have hsp : 0 < sz := Nat.pos_of_mul_pos_left hpos
  have hbase : RepL σ ((Array.range (len * sz)).map (fun x => z.cells[x % z.cells.size]!)).toList ((List.range (len * sz)).map fun i => zs.getD (i % sz) .nils) := by
    refine ⟨by simp, fun j v d hv hd => ?_⟩
    simp only [List.getElem?_map, Option.map_eq_some_iff, Array.toList_map, Array.toList_range] at hv hd
    obtain ⟨j1, hj1, rfl⟩ := hv
    obtain ⟨j2, hj2, rfl⟩ := hd
    rw [hj1] at hj2
    cases hj2
    have hlt : j1 % sz < z.cells.size := by rw [hzs]; exact Nat.mod_lt _ hsp
    have hlt2 : j1 % sz < zs.length := by rw [hzl]; exact Nat.mod_lt _ hsp
    have e1 : z.cells[j1 % z.cells.size]! = z.cells[j1 % sz] := by rw [hzs]; exact getElem!_pos z.cells _ hlt
    rw [e1]
    refine hzr.2 (j1 % sz) _ _ (by simp [hlt]) (by simp [List.getD, hlt2])
  obtain ⟨cs', h1, h2⟩ := fill_rep (σ := σ) (gh := gh) (st := st) (fun i => some (i * sz, sz)) _ _ _ _ ds (by simp) hpr hbase hf
  have hpp : (parts.map fun p => (p.1, ρ p.2)).toList = parts.toList.map fun p => (p.1, ρ p.2) := by simp
  have h1' : Instr.fill (fun i => some (i * sz, sz)) ((Array.range (len * sz)).map (fun x => z.cells[x % z.cells.size]!)) (parts.map fun p => (p.1, ρ p.2)).toList = some cs' := by rw [hpp]; exact h1
  have hrun : (execOp ρ o).run P w = .ok (.value (.slice (some ⟨w.heap.size, 0, none⟩) len len)) (w.alloc (.cells cs' e)) := by
    have hm : ¬ (len * sz > 2 ^ 24) := by omega
    have h0 : ¬ (len * sz = 0) := by omega
    simp only [execOp, ho, Instr.buildSlice, Sem.run_bind, run_underlying hu, Result.andThen_ok, sizeOf, typeInfo, run_program, hi, Sem.run_pure, hsz, hm, if_false, h0, zeroValue, hz']
    simp [newRow, h1]
  rw [hrun]
  have hone : ∀ v ∈ cs', v.oneCell' = true := fun v hv => by
    obtain ⟨j, hj, rfl⟩ := List.getElem_of_mem (by simpa using hv : v ∈ cs'.toList)
    have hj' : j < ds.length := by rw [← h2.1]; exact hj
    exact (h2.2 j _ ds[j] (by simp [hj]) (by simp [hj'])).one
  have hf' := new_sealed hb cs' e hone
  have hle := Sig.le_seal (hb.sl.fresh (Nat.le_refl _)) cs'.toList
  refine ⟨_, gh, hf', ?_⟩
  have hcl : cs'.size = len * sz := by have := h2.1; simp at this; omega
  have hlen : 0 < len := Nat.pos_of_mul_pos_right hpos
  have hbnd : ∀ i j, i < len → j < sz → i * sz + j < len * sz := fun i j hi' hj => by
    calc i * sz + j < i * sz + sz := by omega
      _ = (i + 1) * sz := by rw [Nat.add_mul]; omega
      _ ≤ len * sz := Nat.mul_le_mul_right _ (by omega)
  refine Rep.full ?_ (fun a n c h => by cases h; rfl)
  refine Rep.list (fun i j => cs'.getD (i * sz + j) undef) (chunk_length sz len ds).symm hlen (Nat.le_refl _) ?_ (fun i x hx => ?_) (fun i j hi' hj => ?_) (fun i j x d hx hd => ?_)
  · have : len ≤ len * sz := Nat.le_mul_of_pos_right _ hsp
    simp only [maxLen]; omega
  · obtain ⟨h3, rfl⟩ := chunk_get sz len ds i x hx
    have := Nat.mul_le_mul_right sz (show i + 1 ≤ len by omega)
    rw [Nat.add_mul] at this
    simp; omega
  · have := hbnd i j hi' hj
    simp [Sig.shut, Array.getD, hcl, this]
  · obtain ⟨h3, rfl⟩ := chunk_get sz len ds i x hx
    have hj : j < sz := by have := (List.getElem?_eq_some_iff.1 hd).1; simp at this; omega
    rw [List.getElem?_take_of_lt hj, List.getElem?_drop] at hd
    have hlt := hbnd i j h3 hj
    have : Rep σ (cs'.getD (i * sz + j) undef) d := h2.2 (i * sz + j) _ d (by simp [Array.getD, hcl, hlt]) hd
    exact this.mono hle

theorem OpS.weaken {op : Op} {st' : List AO} {v v' : AV} (h : OpS P op E st v st') (hv : ∀ σ gh u, RepA σ gh st' u v → RepA σ gh st' u v') (hj : v = .junk → v' = .junk) : OpS P op E st v' st' := by
  intro o ho w0 σ0 σ gh ρ w hb hρ
  have := h o ho w0 σ0 σ gh ρ w hb hρ
  unfold Out at this ⊢
  split
  · rename_i u w' e
    rw [e] at this
    obtain ⟨σ', gh', h1, h2⟩ := this
    exact ⟨σ', gh', h1, hv _ _ _ h2⟩
  · rename_i w' e
    rw [e] at this
    exact ⟨hj this.1, this.2⟩
  · rename_i f args w' e
    rw [e] at this
    exact this.mono fun _ _ ⟨u, h0, σ', gh', h1, h2⟩ => ⟨u, h0, σ', gh', h1, hv _ _ _ h2⟩
  · rename_i hn1 hn2 hn3
    split at this
    · rename_i u w' e; exact (hn1 _ _ e).elim
    · rename_i w' e; exact (hn2 _ e).elim
    · rename_i f args w' e; exact (hn3 _ _ _ e).elim
    · exact this

theorem full_list {σ : Sig} {v : Value} {sz : Nat} {xs} (h : Rep σ v (.full sz xs)) : Rep σ v (.list sz xs) := by cases h; assumption

theorem op_extract (x : Operand) (i : Nat) (vs : List DV) (d : DV) (hx : E x = .tup vs) (hd : vs[i]? = some d) : OpS P (.extract x i) E st (.v d) st :=
  op_pure fun o ho w0 σ0 σ gh ρ w hb hρ => by
    have h1 := hρ x (by simp [Op.operands])
    rw [hx] at h1
    obtain ⟨us, e1, hl, hr⟩ := h1
    have hi : i < us.length := by rw [hl]; exact (List.getElem?_eq_some_iff.1 hd).1
    exact ⟨us[i], by simp [execOp, ho, e1, Instr.extract, hi], hr i _ d (by simp [hi]) hd⟩

theorem op_convert_int (s d : TypeId) (x : Operand) (k k' : IntKind) (n : Int) (u : TypeDesc) (hs : P.underlying s = some u) (hd : P.underlying d = some (.int k)) (hx : E x = .sc (.int k' n)) (hu : u = .int k') :
    OpS P (.convert s d x) E st (.sc (.int k (k.wrap n))) st :=
  op_pure fun o ho w0 σ0 σ gh ρ w hb hρ => by
    have h1 := hρ x (by simp [Op.operands])
    rw [hx] at h1
    subst hu
    exact ⟨_, by simp [execOp, ho, RepA_sc h1, convert, run_underlying hs, run_underlying hd, Conv.intToInt], RepA_of_sc rfl⟩

theorem op_makeFunc (f : FuncId) : OpS P (.makeFunc (.func f) #[] #[]) E st (.sc (.func (.func f) #[] #[])) st :=
  op_pure fun o ho w0 σ0 σ gh ρ w hb hρ => ⟨_, by simp [execOp, ho, Instr.makeFunc], RepA_of_sc rfl⟩

/-- an element's address in a row of one's own -/
theorem op_indexAddr_h (t e : TypeId) (sz : Nat) (x i : Operand) (k : IntKind) (m : Int) (s v lo n e' : Nat) (xs : List (List D)) (ht : elT P t = some (e, sz)) (hx : E x = .h s v lo n) (hi : E i = .sc (.int k m))
    (hst : st[s]? = some (.row v e' sz xs)) (h0 : 0 ≤ m) (h1 : m < n) : OpS P (.indexAddr t x i) E st (.ep s v (lo + m.toNat) 0) st :=
  op_pure fun o ho w0 σ0 σ gh ρ w hb hρ => by
    have h2 := hρ x (by simp [Op.operands])
    have h3 := hρ i (by simp [Op.operands])
    rw [hx] at h2
    rw [hi] at h3
    have h3 := RepA_sc h3
    obtain ⟨hu, ti, hinfo, rfl⟩ := elT_spec ht
    obtain ⟨g, hg, hR, A, c, hv⟩ := h_val hb hst h2
    obtain ⟨vals, hown, _⟩ := hb.obj s _ _ hst hg
    have hn : 0 < n := by omega
    have hlen := hR.1
    have : ∃ b m' c', g = .slice (some ⟨b, 0, none⟩) m' c' ∧ A = some ⟨b, lo * ti.size, none⟩ := by
      obtain ⟨h0, ⟨a1, a2, a3⟩ | ⟨b, m, c2, a1, a2, ⟨a3, _⟩ | a3⟩⟩ := hR
      · rcases hown.2 with ⟨e1, e2⟩ | ⟨b, cap, cur, e1, _⟩
        · omega
        · rw [hv, e1] at a3
          injection a3 with a4 a5 a6
          exact ⟨b, _, _, e1, by rw [a4, a1]; simp⟩
      · omega
      · rw [hv] at a3
        injection a3 with a4 a5 a6
        exact ⟨b, _, _, a1, a4⟩
    obtain ⟨b, m', c', hgv, hA⟩ := this
    refine ⟨.pointer (some ⟨b, lo * ti.size + m.toNat * ti.size, none⟩), ?_, g, _, hg, hst, fun k' e2 sz2 xs2 heq => ?_⟩
    · simp [execOp, ho, hv, hA, h3, Instr.indexAt, asIntOf, run_underlying hu, sizeOf, typeInfo, hinfo, h0, h1, add_lit]
    · cases heq
      refine ⟨Nat.le_refl _, fun _ => ⟨by omega, b, m', c', hgv, by rw [Nat.add_mul, Nat.add_zero]⟩⟩

theorem ep_val {w0 : World} {σ0 σ gh w} (hb : Base w0 σ0 σ gh st w) {s v i off e sz : Nat} {xs} (hst : st[s]? = some (.row v e sz xs)) {u : Value} (h : RepA σ gh st u (.ep s v i off)) :
    ∃ g b m c cap cur vals, gh[s]? = some g ∧ g = .slice (some ⟨b, 0, none⟩) m c ∧ u = .pointer (some ⟨b, i * sz + off, none⟩) ∧ i < xs.length ∧ w0.heap.size ≤ b ∧ w.heap[b]? = some (.cells cur e (0, 0)) ∧
      m = xs.length ∧ c = cap ∧ xs.length ≤ cap ∧ cap ≤ maxLen ∧ cur.size = cap * sz ∧ cur.toList.take (xs.length * sz) = vals ∧ vals.length = xs.length * sz ∧ RepRows σ vals sz xs ∧ Uns σ b ∧ (∀ v ∈ vals, v.oneCell' = true) := by
  obtain ⟨g, o, h1, h2, h3⟩ := h
  rw [hst] at h2
  cases h2
  obtain ⟨hi, b, m, c, h4, h5⟩ := (h3 _ _ _ _ rfl).2 rfl
  obtain ⟨vals, hown, hsz, hval, huns, hone⟩ := hb.obj s _ _ hst h1
  rcases hown.2 with ⟨e1, e2⟩ | ⟨b', cap, cur, e1, e2, e3, e4, e5, e6, e7⟩
  · omega
  · rw [h4] at e1
    cases e1
    exact ⟨g, b, xs.length, c, c, cur, vals, h1, h4, h5, hi, e2, e3, rfl, rfl, e4, e5, e6, e7, hown.1, ⟨hsz, hval⟩, huns b (by simp [h4, blkOf]), hone⟩

theorem op_load_ep1 (t : TypeId) (x : Operand) (n s v i off e sz : Nat) (d : D) (xs : List (List D)) (cells : List D) (ht : ldT P t = some (n, false)) (hx : E x = .ep s v i off) (hst : st[s]? = some (.row v e sz xs))
    (hc : xs[i]? = some cells) (hd : cells[off]? = some d) : OpS P (.load t x) E st (.d d) st :=
  op_pure fun o ho w0 σ0 σ gh ρ w hb hρ => by
    have h1 := hρ x (by simp [Op.operands])
    rw [hx] at h1
    obtain ⟨g, b, m, c, cap, cur, vals, a1, a2, a3, a4, a5, a6, a7, a8, a9, a10, a11, a12, a13, a14, a15, a16⟩ := ep_val hb hst h1
    obtain ⟨u, b1, b2⟩ := a14.2 i off cells d hc hd
    have hcell : w.cell? ⟨b, i * sz + off, none⟩ = some u := by
      rw [cell_of_row w b _ cur e (0, 0) a6]
      rw [← a12, List.getElem?_take] at b1
      split at b1
      · simpa using b1
      · cases b1
    exact ⟨u, by simp [execOp, ho, a3, Instr.loadAt, Instr.sureAddr, run_loadVar_one ht hcell], b2⟩

theorem op_load_ep (t : TypeId) (x : Operand) (n s v i off e sz : Nat) (xs : List (List D)) (cells : List D) (ht : ldT P t = some (n, true)) (hx : E x = .ep s v i off) (hst : st[s]? = some (.row v e sz xs))
    (hc : xs[i]? = some cells) (hn : off + n ≤ cells.length) : OpS P (.load t x) E st (.agg ((cells.drop off).take n)) st :=
  op_pure fun o ho w0 σ0 σ gh ρ w hb hρ => by
    have h1 := hρ x (by simp [Op.operands])
    rw [hx] at h1
    obtain ⟨g, b, m, c, cap, cur, vals, a1, a2, a3, a4, a5, a6, a7, a8, a9, a10, a11, a12, a13, a14, a15, a16⟩ := ep_val hb hst h1
    have hcs := a14.1 _ _ hc
    have hle : i * sz + off + n ≤ vals.length := by
      rw [a13]
      calc i * sz + off + n ≤ i * sz + sz := by omega
        _ = (i + 1) * sz := by rw [Nat.add_mul]; omega
        _ ≤ xs.length * sz := Nat.mul_le_mul_right _ (by omega)
    have hr := run_loadVar_agg (P := P) ht (w := w) (b := b) (o := i * sz + off) ((vals.drop (i * sz + off)).take n) (by simp; omega) (fun j u hu => by
      rw [List.getElem?_take] at hu
      split at hu
      · rw [List.getElem?_drop, ← a12, List.getElem?_take] at hu
        split at hu
        · rw [cell_of_row w b _ cur e (0, 0) a6]; simpa using hu
        · cases hu
      · cases hu)
    refine ⟨.agg ((vals.drop (i * sz + off)).take n).toArray, by simp [execOp, ho, a3, Instr.loadAt, Instr.sureAddr, hr], _, rfl, by simp; omega, fun j u d hu hd => ?_⟩
    have hj : j < n := by have := (List.getElem?_eq_some_iff.1 hd).1; simp at this; omega
    rw [List.getElem?_take_of_lt hj, List.getElem?_drop] at hu hd
    obtain ⟨u', b1, b2⟩ := a14.2 i (off + j) cells d hc hd
    rw [Nat.add_assoc] at hu
    rw [hu] at b1
    cases b1
    exact b2

end
end Go.Proofs.Nw.K
