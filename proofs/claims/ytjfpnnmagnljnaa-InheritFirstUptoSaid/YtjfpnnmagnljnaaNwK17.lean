/- K17: a function's contract out of its 'vc'; loops and scopes. -/
import Derived.Test.YtjfpnnmagnljnaaNwK16
open Go Go.RowKit
set_option linter.unusedVariables false
set_option linter.unusedSimpArgs false
namespace Go.Proofs.Nw.K

/-- what is handed back; rows of one's own are given out -/
def retK (T : Tab) : List ResultVar → Env → List AO → (List DV → Prop) → Prop
  | [], env, st, K => K []
  | .tmp t :: r, env, st, K => match env t with
    | .v d => retK T r env st fun ds => K (d :: ds)
    | .h s k lo n => match st[s]? with
      | some (.row k' e sz xs) => (k = k' ∧ lo = 0 ∧ n = xs.length) ∧ retK T r (upd env t (.list sz xs)) (st.set s .gone) fun ds => K (.one (.list sz xs) :: ds)
      | _ => False
    | _ => False
  | .cell a t :: r, env, st, K => match env a, T.ld t with
    | .ptr s off, some (n, true) => match st[s]? with
      | some (.box bT cells) => match toDs ((cells.drop off).take n) with
        | some cs => cs.length = n ∧ retK T r env st fun ds => K (.agg cs :: ds)
        | none => False
      | _ => False
    | .ptr s off, some (_, false) => match st[s]? with
      | some (.box bT cells) => match cells[off]? with
        | some (.v (.one d)) => retK T r env st fun ds => K (.one d :: ds)
        | _ => False
      | _ => False
    | _, _ => False

theorem retK_sound {P : Program} {T : Tab} {N : Fm} (hT : TabOk P T) : ∀ {rs : List ResultVar} {env : Env} {st : List AO} {K : List DV → Prop}, retK T rs env st K →
    ∃ env' st' ds, Sub N env st env' st' ∧ resOf P env' st' rs = some ds ∧ K ds ∧ (∀ t d, env t = .v d → env' t = .v d) ∧ (∀ t s off, env t = .ptr s off → env' t = .ptr s off) ∧ ∀ (s : Nat) bT cells, st[s]? = some (.box bT cells) → st'[s]? = some (.box bT cells)
  | [], env, st, K, h => ⟨env, st, [], Sub.refl _ _ _, rfl, h, fun _ _ h => h, fun _ _ _ h => h, fun _ _ _ h => h⟩
  | .tmp t :: r, env, st, K, h => by
    unfold retK at h
    split at h
    · rename_i d hd
      obtain ⟨env', st', ds, h1, h2, h3, h4, h5, h6⟩ := retK_sound hT h
      refine ⟨env', st', d :: ds, h1, ?_, h3, h4, h5, h6⟩
      unfold resOf
      simp only [h4 t d hd, h2]
    · rename_i s k lo n hd
      split at h
      · rename_i k' e sz xs hst
        obtain ⟨⟨rfl, rfl, hn⟩, h⟩ := h
        obtain ⟨env', st', ds, h1, h2, h3, h4, h5, h6⟩ := retK_sound hT h
        have hs := Sub.shut (N := N) (env := env) (st := st) t s _ n e sz xs hd hst hn
        refine ⟨env', st', _ :: ds, hs.trans h1, ?_, h3, fun t' d' hd' => ?_, fun t' s' off' hd' => ?_, fun s' bT cells hc => ?_⟩
        · unfold resOf
          simp only [h4 t _ (upd_same _ _ _), h2]
        · refine h4 t' d' ?_
          have : t' ≠ t := fun e' => by subst e'; rw [hd] at hd'; cases hd'
          rw [upd_other _ _ this]; exact hd'
        · refine h5 t' s' off' ?_
          have : t' ≠ t := fun e' => by subst e'; rw [hd] at hd'; cases hd'
          rw [upd_other _ _ this]; exact hd'
        · refine h6 s' bT cells ?_
          have : s ≠ s' := fun e' => by subst e'; rw [hst] at hc; cases hc
          rw [List.getElem?_set, if_neg this]; exact hc
      · exact h.elim
    · exact h.elim
  | .cell a t :: r, env, st, K, h => by
    unfold retK at h
    split at h
    · rename_i s off n ha hl
      split at h
      · rename_i cells hst
        split at h
        · rename_i cs hcs
          obtain ⟨hn, h⟩ := h
          obtain ⟨env', st', ds, h1, h2, h3, h4, h5, h6⟩ := retK_sound hT h
          refine ⟨env', st', .agg cs :: ds, h1, ?_, h3, h4, h5, h6⟩
          unfold resOf
          simp only [h5 _ _ _ ha, hT.ld _ _ hl, h2, h6 _ _ _ hst, hcs, hn, if_true]
        · exact h.elim
      · exact h.elim
    · rename_i s off n ha hl
      split at h
      · rename_i cells hst
        split at h
        · rename_i d hcs
          obtain ⟨env', st', ds, h1, h2, h3, h4, h5, h6⟩ := retK_sound hT h
          refine ⟨env', st', .one d :: ds, h1, ?_, h3, h4, h5, h6⟩
          unfold resOf
          simp only [h5 _ _ _ ha, hT.ld _ _ hl, h2, h6 _ _ _ hst, hcs]
        · exact h.elim
      · exact h.elim
    · exact h.elim

/-- what a function comes to -/
def Rets (T : Tab) (rs : List ResultVar) (res : List DV) : Post
  | .normal, env, st => retK T rs env st fun ds => AsLe ds res
  | .ret, env, st => retK T rs env st fun ds => AsLe ds res
  | _, _, _ => False

/-- results that are data, in slots -/
def retD (env : Env) : List ResultVar → Option (List DV)
  | [] => some []
  | .tmp t :: r => match env t, retD env r with
    | .v d, some ds => some (d :: ds)
    | _, _ => none
  | _ => none

def onlyData (env : Env) : Env := fun t => match env t with | .v d => .v d | _ => .junk

theorem retD_res {P : Program} {env : Env} {st : List AO} : ∀ {rs : List ResultVar} {ds : List DV}, retD env rs = some ds → resOf P (onlyData env) st rs = some ds
  | [], ds, h => by cases h; rfl
  | .tmp t :: r, ds, h => by
    unfold retD at h
    split at h
    · rename_i d ds' h1 h2
      cases h
      unfold resOf
      have : onlyData env t = .v d := by simp [onlyData, h1]
      simp only [this, retD_res h2]
    · cases h
  | .cell _ _ :: r, ds, h => by simp [retD] at h

/-- what a function comes to that turns own things -/
def RetsE (rs : List ResultVar) (res : List DV) (st' : List AO) : Post
  | .normal, env, st => st.take st'.length = st' ∧ (st'.all (objBelow st'.length)) = true ∧ ∃ ds, retD env rs = some ds ∧ AsLe ds res
  | .ret, env, st => st.take st'.length = st' ∧ (st'.all (objBelow st'.length)) = true ∧ ∃ ds, retD env rs = some ds ∧ AsLe ds res
  | _, _, _ => False

theorem eff_vc {P : Program} {f : FuncId} {fn : Func} {n : Nat} {c : Code} {args : List AV} {st st' : List AO} {res : List DV} (hf : P.funcs[f]? = some fn) (hN : fn.ntmps = n) (hb : fn.body = some c) (hn : args.length ≤ n)
    (hlen : st.length = st'.length) (h : WP P ⟨n, st.length⟩ c (argsE args) st (RetsE fn.results.toList res st')) : Eff P f args st res st' := by
  subst hN
  refine eff_of_le (Le := fun ds s => s = st' ∧ AsLe ds res) (fun ds s hl => ⟨hl.1, fun σ u => hl.2.res⟩) hf hb hn ?_
  intro w0 σ0 I a w hr
  refine wp_mono (h w0 σ0 I a w hr) fun e a' w' q => ?_
  have key : ∀ env s, Rel ⟨fn.ntmps, st.length⟩ w0 σ0 I env s a' w' → (s.take st'.length = st' ∧ (st'.all (objBelow st'.length)) = true ∧ ∃ ds, retD env fn.results.toList = some ds ∧ AsLe ds res) →
      ∃ env s, Rel ⟨fn.ntmps, st.length⟩ w0 σ0 I env s a' w' ∧ ∃ ds, (s = st' ∧ AsLe ds res) ∧ resOf P env s fn.results.toList = some ds := by
    intro env s ⟨h1, h2, hI, σ, gh, hbase, hk, he⟩ ⟨h4, h5, ds, h6, h7⟩
    have hb' := hbase.take st'.length (by rw [h4]; exact h5)
    rw [h4] at hb'
    refine ⟨onlyData env, st', ⟨h1, h2, hI, σ, gh.take st'.length, hb', fun v b hv => ?_, fun t => ?_⟩, ds, ⟨rfl, h7⟩, retD_res h6⟩
    · have hle : I.gh.length ≤ st'.length := by rw [hI]; simp [hlen]
      have := (hk v b hv).take (belowN_of hv hle)
      rwa [h4] at this
    · unfold onlyData
      split
      · rename_i d hd
        have := he t
        rw [hd] at this
        exact this
      · trivial
  cases e with
  | normal => obtain ⟨env, st, h1, h2⟩ := q; exact key env st h1 h2
  | ret => obtain ⟨env, st, h1, h2⟩ := q; exact key env st h1 h2
  | exit _ => obtain ⟨env, st, h1, h2⟩ := q; exact (h2 : False).elim
  | goto _ => obtain ⟨env, st, h1, h2⟩ := q; exact (h2 : False).elim
  | panic _ => exact q
  | outgrown => exact q

/-- .. and leaves just these own things -/
def RetsE0 (rs : List ResultVar) (res : List DV) (st' : List AO) : Post
  | .normal, env, st => st = st' ∧ ∃ ds, retD env rs = some ds ∧ AsLe ds res
  | .ret, env, st => st = st' ∧ ∃ ds, retD env rs = some ds ∧ AsLe ds res
  | _, _, _ => False

theorem eff_vc0 {P : Program} {f : FuncId} {fn : Func} {n : Nat} {c : Code} {args : List AV} {st st' : List AO} {res : List DV} (hf : P.funcs[f]? = some fn) (hN : fn.ntmps = n) (hb : fn.body = some c) (hn : args.length ≤ n)
    (h : WP P ⟨n, st.length⟩ c (argsE args) st (RetsE0 fn.results.toList res st')) : Eff P f args st res st' := by
  subst hN
  refine eff_of_le (Le := fun ds s => s = st' ∧ AsLe ds res) (fun ds s hl => ⟨hl.1, fun σ u => hl.2.res⟩) hf hb hn ?_
  intro w0 σ0 I a w hr
  refine wp_mono (h w0 σ0 I a w hr) fun e a' w' q => ?_
  have key : ∀ env s, Rel ⟨fn.ntmps, st.length⟩ w0 σ0 I env s a' w' → (s = st' ∧ ∃ ds, retD env fn.results.toList = some ds ∧ AsLe ds res) →
      ∃ env s, Rel ⟨fn.ntmps, st.length⟩ w0 σ0 I env s a' w' ∧ ∃ ds, (s = st' ∧ AsLe ds res) ∧ resOf P env s fn.results.toList = some ds := by
    intro env s ⟨h1, h2, hI, σ, gh, hbase, hk, he⟩ ⟨rfl, ds, h6, h7⟩
    refine ⟨onlyData env, s, ⟨h1, h2, hI, σ, gh, hbase, hk, fun t => ?_⟩, ds, ⟨rfl, h7⟩, retD_res h6⟩
    unfold onlyData
    split
    · rename_i d hd
      have := he t
      rw [hd] at this
      exact this
    · trivial
  cases e with
  | normal => obtain ⟨env, st, h1, h2⟩ := q; exact key env st h1 h2
  | ret => obtain ⟨env, st, h1, h2⟩ := q; exact key env st h1 h2
  | exit _ => obtain ⟨env, st, h1, h2⟩ := q; exact (h2 : False).elim
  | goto _ => obtain ⟨env, st, h1, h2⟩ := q; exact (h2 : False).elim
  | panic _ => exact q
  | outgrown => exact q

section
variable {P : Program} {T : Tab} (hT : TabOk P T)
include hT

theorem impl_vc {f : FuncId} {fn : Func} {n : Nat} {c : Code} {args res : List DV} (hf : P.funcs[f]? = some fn) (hN : fn.ntmps = n) (hb : fn.body = some c) (hn : args.length ≤ n)
    (h : WP P ⟨n, 0⟩ c (argsE (args.map AV.v)) [] (Rets T fn.results.toList res)) : Impl P f args res := by
  subst hN
  refine impl_of_le (Le := fun ds => AsLe ds res) (fun ds hl σ u => hl.res) hf hb hn ?_
  intro w0 σ0 I a w hr
  refine wp_mono (h w0 σ0 I a w hr) fun e a' w' q => ?_
  have key : ∀ env st, Rel ⟨fn.ntmps, 0⟩ w0 σ0 I env st a' w' → retK T fn.results.toList env st (fun ds => AsLe ds res) → ∃ env st, Rel ⟨fn.ntmps, 0⟩ w0 σ0 I env st a' w' ∧ ∃ ds, AsLe ds res ∧ resOf P env st fn.results.toList = some ds := by
    intro env st h1 h2
    obtain ⟨env', st', ds, h3, h4, h5, _⟩ := retK_sound (N := ⟨fn.ntmps, 0⟩) hT h2
    exact ⟨env', st', h3 _ _ _ _ _ h1, ds, h5, h4⟩
  cases e with
  | normal => obtain ⟨env, st, h1, h2⟩ := q; exact key env st h1 h2
  | ret => obtain ⟨env, st, h1, h2⟩ := q; exact key env st h1 h2
  | exit _ => obtain ⟨env, st, h1, h2⟩ := q; exact (h2 : False).elim
  | goto _ => obtain ⟨env, st, h1, h2⟩ := q; exact (h2 : False).elim
  | panic _ => exact q
  | outgrown => exact q

end
end Go.Proofs.Nw.K
