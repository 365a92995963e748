/- K11: contracts of functions; calls; what may be forgotten. -/
import Derived.Test.YtjfpnnmagnljnaaNwK10
open Go Go.RowKit
set_option linter.unusedVariables false
set_option linter.unusedSimpArgs false
namespace Go.Proofs.Nw.K

def RepRes (σ : Sig) (u : Value) (res : List DV) : Prop :=
  match res with
  | [d] => RepV σ u d
  | ds => ∃ us : List Value, u = .tuple us.toArray ∧ RepVs σ us ds

/-- a call of f, with these data, hands back these, and leaves all that was there as it was -/
def Impl (P : Program) (f : FuncId) (args res : List DV) : Prop :=
  ∀ w σ vs, Sealed σ w → RepVs σ vs args → Calls P f vs.toArray w fun e w' => ∃ u σ', e = .returned u ∧ Below w.heap.size w w' ∧ Sealed σ' w' ∧
    (∀ b, b < w.heap.size → σ'.cell b = σ.cell b ∧ σ'.obj b = σ.obj b) ∧ RepRes σ' u res

def resAV : List DV → AV
  | [d] => .v d
  | ds => .tup ds

theorem resAV_rep {σ : Sig} {gh st} {u : Value} {res : List DV} (h : RepRes σ u res) : RepA σ gh st u (resAV res) := by
  unfold RepRes at h
  split at h
  · exact h
  · rename_i hne
    unfold resAV
    split
    · exact absurd rfl (hne _)
    · exact h

theorem Sealed.le_of {σ σ' : Sig} {w : World} (h : Sealed σ w) (hs : ∀ b, b < w.heap.size → σ'.cell b = σ.cell b ∧ σ'.obj b = σ.obj b) : σ.le σ' :=
  ⟨fun b o v hv => by rw [(hs b (World.block_lt_of_cell? w _ (h.cell b o v hv).1)).1]; exact hv,
   fun r o ho => by rw [(hs r (Array.getElem?_eq_some_iff.1 (h.obj r o ho)).1).2]; exact ho⟩

/-- behind a call -/
theorem Fut.call {w0 : World} {σ0 σ gh st w} (hb : Base w0 σ0 σ gh st w) {w' : World} {σ' : Sig} (hbl : Below w.heap.size w w') (hsl : Sealed σ' w') (hs : ∀ b, b < w.heap.size → σ'.cell b = σ.cell b ∧ σ'.obj b = σ.obj b) :
    Fut w0 σ0 σ gh st σ' gh st w' := by
  have hle := hb.sl.le_of hs
  have hg : w.grownBy w' none := ⟨hbl.os, hbl.tape, hbl.output, hbl.size, fun k hk _ => hbl.block k hk⟩
  have b' := hb.grown hg
  have keep : ∀ v a, RepA σ gh st v a → RepA σ' gh st v a := fun v a h => h.sig hle
  refine ⟨⟨b'.below, fun b h => ?_, hsl, b'.len, b'.sep, b'.lt, fun s o g h1 h2 => ?_⟩, keep⟩
  · have h1 := hb.ext b h
    have h2 := hs b (by have := hb.below.size; omega)
    exact ⟨h2.1.trans h1.1, h2.2.trans h1.2⟩
  · refine (b'.obj s o g h1 h2).sig hle (fun b hbk hu => ?_) keep
    have := hs b (hb.lt s g b h2 hbk)
    exact ⟨fun o => by rw [this.1]; exact hu.1 o, by rw [this.2]; exact hu.2⟩

/-- a function that can be called -/
def callable (P : Program) (f : FuncId) : Bool :=
  match P.funcs[f]? with
  | some fn => fn.body.isSome && !(fn.name == "runtime.NumGoroutine")
  | none => false

theorem callFunc_run {P : Program} {f : FuncId} (h : callable P f = true) (args : Array Value) (w : World) : (callFunc f args).run P w = .ok (.enter f args) w := by
  unfold callable at h
  split at h
  · rename_i fn hf
    simp only [Bool.and_eq_true, Bool.not_eq_true'] at h
    have h1 : fn.body.isNone = false := by cases hb : fn.body <;> simp_all
    have h2 : ¬ fn.name = "runtime.NumGoroutine" := by simpa using h.2
    have h3 : ¬ fn.body = none := by intro e; rw [e] at h1; cases h1
    simp [callFunc, hf, h2, h3]
  · cases h

def argsDV : List AV → Option (List DV)
  | [] => some []
  | .v d :: r => match argsDV r with | some ds => some (d :: ds) | none => none
  | _ => none

theorem argsDV_rep {σ : Sig} {gh st} : ∀ {as : List AV} {ds : List DV} {vs : List Value}, argsDV as = some ds → vs.length = as.length → (∀ (i : Nat) v a, vs[i]? = some v → as[i]? = some a → RepA σ gh st v a) → RepVs σ vs ds
  | [], ds, vs, h, hl, hr => by cases h; exact ⟨by simpa using hl, fun i v d _ hd => by simp at hd⟩
  | a :: as, ds, vs, h, hl, hr => by
    unfold argsDV at h
    split at h
    · cases h; rename_i heq; cases heq
    · rename_i d r heq
      cases heq
      split at h <;> try cases h
      rename_i ds' hds
      cases vs with
      | nil => simp at hl
      | cons v vs =>
        have ih := argsDV_rep (vs := vs) hds (by simpa using hl) (fun i v a hv ha => hr (i + 1) v a (by simpa using hv) (by simpa using ha))
        refine ⟨by simp [ih.1], fun i u d' hu hd => ?_⟩
        cases i with
        | zero => simp at hu hd; subst hu hd; exact hr 0 _ _ rfl rfl
        | succ i => simp at hu hd; exact ih.2 i u d' hu hd
    · cases h

section
variable {P : Program} {N : Fm} {E : Operand → AV} {env : Env} {st : List AO} {Q : Post}

abbrev fnAV (f : FuncId) : AV := .sc (.func (.func f) #[] #[])

theorem op_call (x : Operand) (f : FuncId) (args : Array Operand) (ts : Array TypeId) (ds res : List DV) (hx : E x = fnAV f) (hc : callable P f = true) (ha : argsDV (args.toList.map E) = some ds) (hi : Impl P f ds res) :
    OpS P (.call { callee := .value x, args := args, argTypes := ts }) E st (resAV res) st := by
  intro o ho w0 σ0 σ gh ρ w hb hρ
  have hf := hρ x (by simp [Op.operands, Call.operands])
  rw [hx] at hf
  have hf := RepA_sc hf
  have hrun : (execOp ρ o).run P w = .ok (.enter f (args.map ρ)) w := by
    simp only [execOp, ho, resolve, hf, Deferred.ofValue, Sem.run_bind, Sem.run_pure, Result.andThen_ok, invoke]
    rw [show (#[] ++ Array.map ρ args ++ #[]) = Array.map ρ args by simp]
    exact callFunc_run hc (args.map ρ) w
  rw [hrun]
  have hvs : RepVs σ (args.toList.map ρ) ds := argsDV_rep ha (by simp) (fun i v a hv ha => by
    simp only [List.getElem?_map, Option.map_eq_some_iff] at hv ha
    obtain ⟨y, hy, rfl⟩ := hv
    obtain ⟨z, hz, rfl⟩ := ha
    rw [hy] at hz
    cases hz
    exact hρ y (by
      have hm : y ∈ args := by rw [← Array.mem_toList_iff]; exact List.mem_of_getElem? hy
      simp only [Op.operands, Call.operands]
      exact Array.mem_append.2 (.inr hm)))
  have := hi w σ _ hb.sl hvs
  have he : (args.toList.map ρ).toArray = args.map ρ := by apply Array.ext'; simp
  rw [he] at this
  refine Calls.mono this fun e w' hq => ?_
  obtain ⟨u, σ', rfl, h1, h2, h3, h4⟩ := hq
  exact ⟨u, rfl, σ', gh, Fut.call hb h1 h2 h3, resAV_rep h4⟩

/-! ### what a function hands back -/
/-- the results, read off the frame -/
def resOf (P : Program) (env : Env) (st : List AO) : List ResultVar → Option (List DV)
  | [] => some []
  | .tmp t :: r => match env t, resOf P env st r with
    | .v d, some ds => some (d :: ds)
    | _, _ => none
  | .cell a t :: r => match env a, ldT P t, resOf P env st r with
    | .ptr s off, some (n, true), some ds => match st[s]? with
      | some (.box bT cells) => match toDs ((cells.drop off).take n) with
        | some cs => if cs.length = n then some (.agg cs :: ds) else none
        | none => none
      | _ => none
    | .ptr s off, some (_, false), some ds => match st[s]? with
      | some (.box bT cells) => match cells[off]? with
        | some (.v (.one d)) => some (.one d :: ds)
        | _ => none
      | _ => none
    | _, _, _ => none

def resM (tm : Nat → Value) : ResultVar → Sem Value
  | .tmp t => pure (tm t)
  | .cell a t => do loadVar t (← asAddr (tm a))

theorem results_eq (fn : Func) (tmps : Array Value) : results fn tmps = (do let vs ← fn.results.mapM (resM fun t => tmps.getD t undef); pure (if h : vs.size = 1 then vs[0] else .tuple vs)) := by
  unfold results
  congr 1

theorem resOf_run {w0 : World} {σ0 σ gh w} (hb : Base w0 σ0 σ gh st w) {tm : Nat → Value} (he : ∀ t, RepA σ gh st (tm t) (env t)) : ∀ {rs : List ResultVar} {ds : List DV}, resOf P env st rs = some ds →
    ∃ us, (rs.mapM (resM tm)).run P w = .ok us w ∧ RepVs σ us ds
  | [], ds, h => by cases h; exact ⟨[], by simp, rfl, fun i v d h => by simp at h⟩
  | .tmp t :: r, ds, h => by
    unfold resOf at h
    split at h
    · rename_i d ds' h1 h2
      cases h
      obtain ⟨us, hr, hv⟩ := resOf_run hb he h2
      have hd := he t
      rw [h1] at hd
      refine ⟨tm t :: us, by simp [List.mapM_cons, resM, hr], by simp [hv.1], fun i v d' hv' hd' => ?_⟩
      cases i with
      | zero => simp at hv' hd'; subst hd' hv'; exact hd
      | succ i => simp at hv' hd'; exact hv.2 i v d' hv' hd'
    · cases h
  | .cell a t :: r, ds, h => by
    unfold resOf at h
    split at h
    · rename_i s off n ds' h1 hld h2
      split at h <;> try cases h
      rename_i cells hst
      split at h <;> try cases h
      rename_i cs hcs
      split at h <;> try cases h
      rename_i hn
      obtain ⟨us, hr, hv⟩ := resOf_run hb he h2
      have hd := he a
      rw [h1] at hd
      obtain ⟨b, vals, a2, a3, a4, a5, a6, a7, a8, a9⟩ := ptr_cells hb hd hst
      have hds := toDs_get hcs
      have hvl : ((vals.toList.drop off).take n).length = n := by
        have := hds.1
        rw [hn, List.length_take, List.length_drop] at this
        simp; omega
      have hr1 := run_loadVar_agg (P := P) hld (w := w) (b := b) (o := off) ((vals.toList.drop off).take n) hvl (fun j v hv => by
        rw [List.getElem?_take] at hv
        split at hv
        · rw [cell_of_row w b _ vals _ (0, 0) a5]; simpa using hv
        · cases hv)
      refine ⟨.agg ((vals.toList.drop off).take n).toArray :: us, by simp only [List.mapM_cons, resM, a3, asAddr, Sem.run_bind, Sem.run_pure, Result.andThen_ok, hr1, hr], by simp [hv.1], fun i v d' hv' hd' => ?_⟩
      cases i with
      | zero =>
        simp at hv' hd'
        subst hv' hd'
        refine ⟨_, rfl, by rw [hvl, hn], fun i v d hv hdd => ?_⟩
        have h10 := hds.2 i d hdd
        have hi : i < n := by have := (List.getElem?_eq_some_iff.1 hdd).1; omega
        rw [List.getElem?_take_of_lt hi] at h10 hv
        exact a7 (off + i) v (.d d) (by simpa using hv) (by simpa using h10)
      | succ i => simp at hv' hd'; exact hv.2 i v d' hv' hd'
    · rename_i s off n ds' h1 hld h2
      split at h <;> try cases h
      rename_i cells hst
      split at h <;> try cases h
      rename_i d hcs
      obtain ⟨us, hr, hv⟩ := resOf_run hb he h2
      have hd := he a
      rw [h1] at hd
      obtain ⟨b, vals, a2, a3, a4, a5, a6, a7, a8, a9⟩ := ptr_cells hb hd hst
      have hlt : off < vals.size := by rw [a6]; exact (List.getElem?_eq_some_iff.1 hcs).1
      have hc : w.cell? ⟨b, off, none⟩ = some vals[off] := by rw [cell_of_row w b off vals _ (0, 0) a5]; simp [hlt]
      refine ⟨vals[off] :: us, by simp only [List.mapM_cons, resM, a3, asAddr, Sem.run_bind, Sem.run_pure, Result.andThen_ok, run_loadVar_one hld hc, hr], by simp [hv.1], fun i v d' hv' hd' => ?_⟩
      cases i with
      | zero => simp at hv' hd'; subst hv' hd'; exact a7 off _ _ (by simp [hlt]) hcs
      | succ i => simp at hv' hd'; exact hv.2 i v d' hv' hd'
    · cases h

/-- where data arguments lie at the begin -/
def args0 (args : List DV) : Env := fun t => match args[t]? with | some d => .v d | none => .junk

def Returns (P : Program) (fn : Func) (res : List DV) : Post
  | .normal, env, st => resOf P env st fn.results.toList = some res
  | .ret, env, st => resOf P env st fn.results.toList = some res
  | _, _, _ => False

/-- a call with own things among its arguments: these data, and own things, in; results, and own things, out; all else is as it was -/
def Eff (P : Program) (f : FuncId) (args : List AV) (st : List AO) (res : List DV) (st' : List AO) : Prop :=
  ∀ w0 σ0 σ gh w (vs : List Value), Base w0 σ0 σ gh st w → vs.length = args.length → (∀ (i : Nat) v a, vs[i]? = some v → args[i]? = some a → RepA σ gh st v a) →
    Calls P f vs.toArray w fun e w' => ∃ u, e = .returned u ∧ ∃ σ' gh', Fut w0 σ0 σ gh st σ' gh' st' w' ∧ RepRes σ' u res

/-- a call with own things among its arguments -/
theorem op_calleff (x : Operand) (f : FuncId) (args : Array Operand) (ts : Array TypeId) (as : List AV) (res : List DV) (st' : List AO) (hx : E x = fnAV f) (hc : callable P f = true) (ha : args.toList.map E = as) (hi : Eff P f as st res st') :
    OpS P (.call { callee := .value x, args := args, argTypes := ts }) E st (resAV res) st' := by
  intro o ho w0 σ0 σ gh ρ w hb hρ
  subst ha
  have hf := hρ x (by simp [Op.operands, Call.operands])
  rw [hx] at hf
  have hf := RepA_sc hf
  have hrun : (execOp ρ o).run P w = .ok (.enter f (args.map ρ)) w := by
    simp only [execOp, ho, resolve, hf, Deferred.ofValue, Sem.run_bind, Sem.run_pure, Result.andThen_ok, invoke]
    rw [show (#[] ++ Array.map ρ args ++ #[]) = Array.map ρ args by simp]
    exact callFunc_run hc (args.map ρ) w
  rw [hrun]
  have := hi w0 σ0 σ gh w (args.toList.map ρ) hb (by simp) (fun i v a hv ha => by
    simp only [List.getElem?_map, Option.map_eq_some_iff] at hv ha
    obtain ⟨y, hy, rfl⟩ := hv
    obtain ⟨z, hz, rfl⟩ := ha
    rw [hy] at hz
    cases hz
    exact hρ y (by
      have hm : y ∈ args := by rw [← Array.mem_toList_iff]; exact List.mem_of_getElem? hy
      simp only [Op.operands, Call.operands]
      exact Array.mem_append.2 (.inr hm)))
  have he : (args.toList.map ρ).toArray = args.map ρ := by apply Array.ext'; simp
  rw [he] at this
  refine Calls.mono this fun e w' hq => ?_
  obtain ⟨u, rfl, σ', gh', h1, h2⟩ := hq
  exact ⟨u, rfl, σ', gh', h1, resAV_rep h2⟩

/-- where the arguments lie at the begin -/
def argsE (args : List AV) : Env := fun t => match args[t]? with | some d => d | none => .junk

theorem eff_of_le {f : FuncId} {fn : Func} {c : Code} {args : List AV} {st st' : List AO} {res : List DV} {Le : List DV → List AO → Prop} (hLe : ∀ ds s, Le ds s → s = st' ∧ ∀ σ u, RepRes σ u ds → RepRes σ u res) (hf : P.funcs[f]? = some fn) (hb : fn.body = some c) (hn : args.length ≤ fn.ntmps)
    (h : WP P ⟨fn.ntmps, st.length⟩ c (argsE args) st fun e env s => ∃ ds, Le ds s ∧ Returns P fn ds e env s) : Eff P f args st res st' := by
  intro w0 σ0 σ gh w vs hbase0 hl hvs
  refine calls_of_wp hf hb (wp_mono (h w0 σ0 ⟨σ, gh, st⟩ _ w ⟨?_, rfl, hbase0.len, σ, gh, hbase0, fun _ _ h => h, fun t => ?_⟩) fun e a w' q => ?_)
  · simp; omega
  · unfold argsE
    split
    · rename_i d hd
      have hlt : t < vs.length := by rw [hl]; exact (List.getElem?_eq_some_iff.1 hd).1
      have : (vs.toArray ++ Array.replicate (fn.ntmps - vs.toArray.size) undef).getD t undef = vs[t] := by
        rw [Array.getD_eq_getD_getElem?, Array.getElem?_append_left (by simpa using hlt)]
        simp [hlt]
      rw [this]
      exact hvs t _ d (by simp [hlt]) hd
    · trivial
  · have fin : ∀ env s ds, Le ds s → Rel ⟨fn.ntmps, st.length⟩ w0 σ0 ⟨σ, gh, st⟩ env s a w' → resOf P env s fn.results.toList = some ds → a.defers = [] ∧ ∃ v, (results fn a.tmps).run P w' = .ok v w' ∧
        ∃ u, Ending.returned v = .returned u ∧ ∃ σ' gh', Fut w0 σ0 σ gh st σ' gh' st' w' ∧ RepRes σ' u res := by
      intro env s ds hle hr hres
      obtain ⟨h1, h2, hI, σ', gh', hbase, hk, he⟩ := hr
      obtain ⟨us, hrun, hv⟩ := resOf_run (tm := fun t => a.tmps.getD t undef) hbase he hres
      refine ⟨h2, ?_⟩
      have hrun' : (fn.results.mapM (resM fun t => a.tmps.getD t undef)).run P w' = .ok us.toArray w' := by
        rw [Array.mapM_eq_mapM_toList, Sem.run_map, hrun]; rfl
      obtain ⟨rfl, hle'⟩ := hLe ds s hle
      refine ⟨if h : us.toArray.size = 1 then us.toArray[0] else .tuple us.toArray, ?_, _, rfl, σ', gh', ⟨hbase, hk⟩, hle' _ _ ?_⟩
      · rw [results_eq]
        simp only [Sem.run_bind, hrun', Result.andThen_ok, Sem.run_pure]
      · unfold RepRes
        split
        · rename_i d
          have hl : us.length = 1 := hv.1
          obtain ⟨u0, rfl⟩ := List.length_eq_one_iff.1 hl
          simp
          exact hv.2 0 u0 d rfl rfl
        · rename_i hne
          have : us.toArray.size ≠ 1 := by
            intro e
            have hl : ds.length = 1 := by rw [← hv.1]; simpa using e
            obtain ⟨d, rfl⟩ := List.length_eq_one_iff.1 hl
            exact hne d rfl
          rw [dif_neg this]
          exact ⟨us, rfl, hv⟩
    cases e with
    | normal => obtain ⟨env, st, h1, ds, h3, h2⟩ := q; exact fin env st ds h3 h1 h2
    | ret => obtain ⟨env, st, h1, ds, h3, h2⟩ := q; exact fin env st ds h3 h1 h2
    | exit _ => obtain ⟨env, st, h1, ds, h3, h2⟩ := q; exact (h2 : False).elim
    | goto _ => obtain ⟨env, st, h1, ds, h3, h2⟩ := q; exact (h2 : False).elim
    | panic _ => exact (q : False).elim
    | outgrown => exact (q : False).elim

/-- of data alone: what own things it makes does not matter -/
theorem impl_of_le {f : FuncId} {fn : Func} {c : Code} {args res : List DV} {Le : List DV → Prop} (hLe : ∀ ds, Le ds → ∀ σ u, RepRes σ u ds → RepRes σ u res) (hf : P.funcs[f]? = some fn) (hb : fn.body = some c) (hn : args.length ≤ fn.ntmps)
    (h : WP P ⟨fn.ntmps, 0⟩ c (argsE (args.map AV.v)) [] fun e env s => ∃ ds, Le ds ∧ Returns P fn ds e env s) : Impl P f args res := by
  intro w σ vs hsl hvs
  have hE : ∀ w0 σ0 σ gh w (vs : List Value), Base w0 σ0 σ gh [] w → vs.length = (args.map AV.v).length → (∀ (i : Nat) v a, vs[i]? = some v → (args.map AV.v)[i]? = some a → RepA σ gh [] v a) →
      Calls P f vs.toArray w fun e w' => ∃ u, e = .returned u ∧ ∃ σ' gh' s, Base w0 σ0 σ' gh' s w' ∧ RepRes σ' u res := by
    intro w0 σ0 σ gh w vs hb0 hl hv
    -- by the effect's own way, whatever own things are there at the end
    refine calls_of_wp hf hb (wp_mono (h w0 σ0 ⟨σ, gh, []⟩ _ w ⟨?_, rfl, hb0.len, σ, gh, hb0, fun _ _ h => h, fun t => ?_⟩) fun e a w' q => ?_)
    · simp at hl ⊢; omega
    · unfold argsE
      split
      · rename_i d hd
        have hlt : t < vs.length := by rw [hl]; exact (List.getElem?_eq_some_iff.1 hd).1
        have : (vs.toArray ++ Array.replicate (fn.ntmps - vs.toArray.size) undef).getD t undef = vs[t] := by
          rw [Array.getD_eq_getD_getElem?, Array.getElem?_append_left (by simpa using hlt)]
          simp [hlt]
        rw [this]
        exact hv t _ d (by simp [hlt]) hd
      · trivial
    · have fin : ∀ env s ds, Le ds → Rel ⟨fn.ntmps, 0⟩ w0 σ0 ⟨σ, gh, []⟩ env s a w' → resOf P env s fn.results.toList = some ds → a.defers = [] ∧ ∃ v, (results fn a.tmps).run P w' = .ok v w' ∧
          ∃ u, Ending.returned v = .returned u ∧ ∃ σ' gh' s, Base w0 σ0 σ' gh' s w' ∧ RepRes σ' u res := by
        intro env s ds hle hr hres
        obtain ⟨h1, h2, hI, σ', gh', hbase, hk, he⟩ := hr
        obtain ⟨us, hrun, hv⟩ := resOf_run (tm := fun t => a.tmps.getD t undef) hbase he hres
        refine ⟨h2, ?_⟩
        have hrun' : (fn.results.mapM (resM fun t => a.tmps.getD t undef)).run P w' = .ok us.toArray w' := by
          rw [Array.mapM_eq_mapM_toList, Sem.run_map, hrun]; rfl
        refine ⟨if h : us.toArray.size = 1 then us.toArray[0] else .tuple us.toArray, ?_, _, rfl, σ', gh', s, hbase, hLe ds hle _ _ ?_⟩
        · rw [results_eq]
          simp only [Sem.run_bind, hrun', Result.andThen_ok, Sem.run_pure]
        · unfold RepRes
          split
          · rename_i d
            have hl : us.length = 1 := hv.1
            obtain ⟨u0, rfl⟩ := List.length_eq_one_iff.1 hl
            simp
            exact hv.2 0 u0 d rfl rfl
          · rename_i hne
            have : us.toArray.size ≠ 1 := by
              intro e
              have hl : ds.length = 1 := by rw [← hv.1]; simpa using e
              obtain ⟨d, rfl⟩ := List.length_eq_one_iff.1 hl
              exact hne d rfl
            rw [dif_neg this]
            exact ⟨us, rfl, hv⟩
      cases e with
      | normal => obtain ⟨env, st, h1, ds, h3, h2⟩ := q; exact fin env st ds h3 h1 h2
      | ret => obtain ⟨env, st, h1, ds, h3, h2⟩ := q; exact fin env st ds h3 h1 h2
      | exit _ => obtain ⟨env, st, h1, ds, h3, h2⟩ := q; exact (h2 : False).elim
      | goto _ => obtain ⟨env, st, h1, ds, h3, h2⟩ := q; exact (h2 : False).elim
      | panic _ => exact (q : False).elim
      | outgrown => exact (q : False).elim
  have := hE w σ σ [] w vs ⟨Below.refl _ _, fun _ _ => ⟨rfl, rfl⟩, hsl, rfl, fun s s' b _ h => by simp at h, fun s g b h => by simp at h, fun s o g h => by simp at h⟩ (by simpa using hvs.1) (fun i v a hv ha => by
    simp only [List.getElem?_map, Option.map_eq_some_iff] at ha
    obtain ⟨d, hd, rfl⟩ := ha
    exact hvs.2 i v d hv hd)
  refine this.mono fun e w' ⟨u, h1, σ', gh', s, h2, h3⟩ => ⟨u, σ', h1, h2.below, h2.sl, h2.ext, h3⟩

end
end Go.Proofs.Nw.K
