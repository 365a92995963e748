/- Bundle: NwX21, NwX22, NwXB, NwXE. -/
import Derived.Test.YtbooikopklijdaaGreatDoorNwN5
import Derived.Lib.Bytealg
import Derived.Lib.MakeNoZero
import Derived.Lib.IndexAny
set_option linter.constructorNameAsVariable false
set_option linter.unusedVariables false
set_option linter.unusedSimpArgs false
set_option linter.unusedSectionVars false
section
/- X21: regions in which a map is written out: while it is not whole it is out of sight. -/
open Go Go.RowKit
set_option linter.unusedVariables false
set_option linter.unusedSimpArgs false
set_option linter.constructorNameAsVariable false
namespace Go.Proofs.Nw.X
open Go.Proofs.Nw.K
def Fx.prot (F : Fx) (b : Nat) (w0 : World) (hlt : (∀ x, F.pr x ∨ x = b → x < w0.heap.size) ∧ Gi w0) : Fx where
  w := w0
  pr := fun x => F.pr x ∨ x = b
  lt := hlt.1
  gp := .inl F.gp
  gi := hlt.2
  rs := F.rs
  lo := F.lo
  rl := F.rl
section
variable {F : Fx} {ι : Io} {h : H} {n : Id} {w w0 : World} {b : Nat}
theorem FB.out {hlt} (h0 : FB F w0) (hb : FB (F.prot b w0 hlt) w) : FB F w :=
  ⟨hb.os.trans h0.os, hb.tape.trans h0.tape, hb.output.trans h0.output, Nat.le_trans h0.size hb.size, fun x hx => (hb.block x (.inl hx)).trans (h0.block x hx)⟩
theorem HR.out {hlt} (hb : HR (F.prot b w0 hlt) ι h n w) (h0 : FB F w0) : HR F ι h n w :=
  ⟨h0.out hb.below, hb.len, fun o pl e => let ⟨a1, a2, a3, a4⟩ := hb.dom o pl e; ⟨a1, a2, fun hx => a3 (.inl hx), a4⟩, hb.inj, hb.obj, hb.rsv, hb.lo⟩
theorem HR.hide (hb : HR F ι h n w) (hlt) (hne : ∀ o pl, ι o = some pl → pl.b ≠ b) : HR (F.prot b w hlt) ι h n w :=
  ⟨⟨rfl, rfl, rfl, Nat.le_refl _, fun _ _ => rfl⟩, hb.len, fun o pl e => let ⟨a1, a2, a3, a4⟩ := hb.dom o pl e; ⟨a1, a2, fun hx => hx.elim a3 (hne o pl e), a4⟩, hb.inj, hb.obj, hb.rsv, hb.lo⟩
theorem HR.seen {hlt} (hb : HR (F.prot b w0 hlt) ι h n w) : ∀ o pl, ι o = some pl → pl.b ≠ b := fun o pl e hx => (hb.dom o pl e).2.2.1 (.inr hx)
theorem HR.behind {hlt} (hb : HR (F.prot b w0 hlt) ι h n w) (x : Obj) (hlt') : HR (F.prot b { w with heap := w.heap.setIfInBounds b x } hlt') ι h n { w with heap := w.heap.setIfInBounds b x } :=
  ⟨⟨rfl, rfl, rfl, Nat.le_refl _, fun _ _ => rfl⟩, hb.len, fun o pl e => let ⟨a1, a2, a3, a4⟩ := hb.dom o pl e; ⟨a1, a2, a3, by simpa using a4⟩, hb.inj,
   fun o pl y e hy => (hb.obj o pl y e hy).keep (Ext.refl _) (by
     have hne : b ≠ pl.b := fun hh => hb.seen o pl e hh.symm
     simp [Array.getElem?_setIfInBounds_ne hne]), hb.rsv, hb.lo⟩
theorem FB.behind {hlt} (h0 : FB F w0) (hb : FB (F.prot b w0 hlt) w) (hp : ¬ F.pr b) (x : Obj) : FB F { w with heap := w.heap.setIfInBounds b x } := by
  have := h0.out hb
  refine ⟨this.os, this.tape, this.output, by simpa using this.size, fun y hy => ?_⟩
  have hne : b ≠ y := fun e => hp (by rw [e]; exact hy)
  rw [← this.block y hy]
  simp [Array.getElem?_setIfInBounds_ne hne]
theorem HR.show {id : Id} (hb : HR F ι h n w) (hl : id.length = 8) (hr : rk id < rk n) (hi : ι id = none) (hrs : F.lo ≤ rk id) {x : O} (hx : hget id h = some x) (pl : Pl) (hp : ¬ F.pr pl.b) (hlt : pl.b < w.heap.size) (hfree : ∀ o pl', ι o = some pl' → pl'.b ≠ pl.b)
    (hok : OOk (upI ι id pl) w pl x) : HR F (upI ι id pl) h n w ∧ Ext ι (upI ι id pl) := by
  have he : Ext ι (upI ι id pl) := fun o pl' e => by rw [upI_ne]; exact e; intro e'; rw [e', hi] at e; cases e
  refine ⟨⟨hb.below, hb.len, fun o pl' e => ?_, fun o o' p1 p2 l1 l2 e1 e2 hbb => ?_, fun o pl' y e hy => ?_, fun o pl' e hrs' => ?_, hb.lo⟩, he⟩
  · by_cases eo : o = id
    · subst eo
      rw [upI_same] at e; cases e
      exact ⟨hl, hr, hp, hlt⟩
    · rw [upI_ne _ _ eo] at e
      exact hb.dom o pl' e
  · by_cases n1 : o = id
    · by_cases n2 : o' = id
      · rw [n1, n2]
      · subst n1
        rw [upI_same] at e1; cases e1
        rw [upI_ne _ _ n2] at e2
        exact absurd hbb.symm (hfree o' p2 e2)
    · rw [upI_ne _ _ n1] at e1
      by_cases n2 : o' = id
      · subst n2
        rw [upI_same] at e2; cases e2
        exact absurd hbb (hfree o p1 e1)
      · rw [upI_ne _ _ n2] at e2
        exact hb.inj o o' p1 p2 l1 l2 e1 e2 hbb
  · by_cases eo : o = id
    · subst eo
      rw [upI_same] at e; cases e
      have hy' : hget o h = some y := hy
      have : y = x := by rw [hx] at hy'; exact (Option.some.inj hy').symm
      rw [this]; exact hok
    · rw [upI_ne _ _ eo] at e
      exact (hb.obj o pl' y e hy).keep he rfl
  · by_cases eo : o = id
    · subst eo; have := F.rl _ hrs'; omega
    · rw [upI_ne _ _ eo] at e; exact hb.rsv o pl' e hrs'
end
theorem Dist.keys : ∀ {es es' : List (V × V)}, es.map (·.1) = es'.map (·.1) → Dist es → Dist es'
  | [], [], _, _ => trivial
  | [], _ :: _, h, _ => by simp at h
  | _ :: _, [], h, _ => by simp at h
  | p :: es, p' :: es', h, hd => by
    simp only [List.map_cons, List.cons.injEq] at h
    obtain ⟨h1, h2⟩ := h
    refine ⟨by rw [← h1]; exact hd.1, fun q hq e => ?_, hd.2.2.keys h2⟩
    have : q.1 ∈ es'.map (·.1) := List.mem_map.2 ⟨q, hq, rfl⟩
    rw [← h2] at this
    obtain ⟨q', h3, h4⟩ := List.mem_map.1 this
    exact hd.2.1 q' h3 (by rw [h4, e, h1])
theorem litArgs_opL {op : Op} {l : List Operand} (h : litArgs op = some l) : opL op = some l := by
  unfold litArgs at h
  split at h
  · rw [← h]; rfl
  · cases h
abbrev Ins := List (Nat × Operand × Operand)
def IsIns (ins : Ins) (i : Nat) : Prop := ∃ (q : Nat) (k v : Operand), ins[q]? = some (i, k, v)
structure LitOk (ops vops : List Oper) (rbs vbs : List Nat) (tm m0 dm : Nat) (mt : TypeId) (ins : Ins) : Prop where
  m0o : ∃ o, ops[m0]? = some o ∧ o.op = .makeMap mt none ∧ o.guard = none ∧ o.dst = some dm
  v0 : ∃ o, vops[m0]? = some o ∧ litArgs o.op = some (flat2 (ins.map (·.2))) ∧ clOf o.op = .a ∧ o.guard = none ∧ o.dst = some dm
  inso : ∀ (q i : Nat) (k v : Operand), ins[q]? = some (i, k, v) → i ≠ m0 ∧ tb (bAt rbs i) m0 = true ∧ (∃ c, k = .const c) ∧ (∀ t j, v = .tmp t → W ops j t → tb (bAt rbs i) j = true ∧ j ≠ m0) ∧
    ∃ o, ops[i]? = some o ∧ o.op = .insert mt (.tmp dm) k v ∧ o.guard = none ∧ o.dst = none
  insv : ∀ i, IsIns ins i → tb tm i = false ∧ ∃ o, vops[i]? = some o ∧ clOf o.op = .p ∧ o.dst = none
  rest : ∀ i, i ≠ m0 → ¬ IsIns ins i → vops[i]? = ops[i]?
  insn : ∀ (q q' i : Nat) (k v k' v' : Operand), ins[q]? = some (i, k, v) → ins[q']? = some (i, k', v') → q = q'
  ne : ∃ x, ins[0]? = some x
  len : vops.length = ops.length
  dst : ∀ i : Nat, (vops[i]?).bind (·.dst) = (ops[i]?).bind (·.dst)
  nl : ∀ (i : Nat) (o : Oper), ops[i]? = some o → litArgs o.op = none
  vb : ∀ i j, i ≠ m0 → tb (bAt vbs i) j = true → tb (bAt rbs i) j = true ∧ (j = m0 → ∀ i', IsIns ins i' → tb (bAt rbs i) i' = true)
  vb0 : ∀ j, tb (bAt vbs m0) j = true → j ≠ m0 ∧ (tb (bAt rbs m0) j = true ∨ ∃ i, IsIns ins i ∧ tb (bAt rbs i) j = true)
  m0t : tb tm m0 = false
  dist : Dist (ins.map fun x => (evT (fun _ => .j) x.2.1, V.j))
def AllIn (ins : Ins) (m0 : Nat) (listed : Array Bool) : Prop := listed.getD m0 false = true ∧ ∀ i, IsIns ins i → listed.getD i false = true
open Classical in
noncomputable def vp (ins : Ins) (m0 : Nat) (listed : Array Bool) : Nat → Bool := fun j => if j = m0 then decide (AllIn ins m0 listed) else listed.getD j false
section
variable {P : Program} {ops vops : List Oper} {rbs vbs : List Nat} {tm : Nat} {ts : List Nat} {m0 dm : Nat} {mt : TypeId} {ins : Ins} {env0 envF : Env} {a0 aF : H × Id} {Hb He : Nat → H × Id} {sg : Nat → Nat}
variable (L : LitOk ops vops rbs vbs tm m0 dm mt ins) (S : St vops vbs tm ts env0.length) (S2 : St2 ops rbs) (hch : Chn vbs ts) (A : FA P vops vbs tm ts env0 envF a0 aF Hb He sg)
variable {N : Nat} (hN : env0.length ≤ N) {F : Fx} {ι0 : Io} {M : MTab} (hM : MTabOk P M) {kt et : TypeId} {g : Bool} (hmt : M mt = some (kt, et, 0, g)) (hdm : rd env0 dm = .j)
include L in
theorem lit_W {j t : Nat} : W vops j t ↔ W ops j t := by
  have := L.dst j
  have key : ∀ (l : List Oper), W l j t ↔ (l[j]?).bind (·.dst) = some t := fun l => by
    unfold W
    cases l[j]? with
    | none => simp
    | some o => simp
  rw [key, key, this]
include L in
theorem lit_wp {i : Nat} (hi : vops[i]? = ops[i]?) {Q' : Exit → Act → World → Prop} {K : Act → World → Prop} {a : Act} {w : World} (h : wpOp P vops.toArray Q' i K a w) : wpOp P ops.toArray Q' i K a w := by
  unfold wpOp at h ⊢
  have e1 : vops.toArray[i]? = ops.toArray[i]? := by simpa using hi
  have e2 : yielded vops.toArray a.tmps = yielded ops.toArray a.tmps := by
    funext j
    have := L.dst j
    unfold yielded
    simp only [List.getElem?_toArray]
    rw [this]
  rw [e1, e2] at h
  exact h
theorem only_dm (hS : St vops vbs tm ts env0.length) (hL : LitOk ops vops rbs vbs tm m0 dm mt ins) {j : Nat} (h : W vops j dm) : j = m0 := by
  obtain ⟨o, h1, _, _, _, h2⟩ := hL.v0
  exact hS.dne j m0 dm h ⟨o, h1, h2⟩
theorem Inv.idf {k : Nat} {ι : Io} {p : Nat → Bool} {a : Act} {w : World} (A : FA P vops vbs tm ts env0 envF a0 aF Hb He sg) (I : Inv vops vbs tm ts env0 envF Hb He sg N F ι0 k ι p a w) {i : Nat} {o : Oper} {d : Nat} {id : Id} (h1 : vops[i]? = some o) (h2 : tb tm i = false) (h3 : clOf o.op = .a)
    (h4 : o.dst = some d) (h5 : vId (rd envF d) = some id) (hs : sg i ≤ k) : id.length = 8 ∧ F.lo ≤ rk id ∧ rk id < rk (He k).2 := by
  obtain ⟨a1, a2, a3⟩ := A.al i o d id h1 h2 h3 h4 h5
  obtain ⟨m1, m2⟩ := I.mon1 (sg i) hs
  refine ⟨a1.trans m2, by omega, ?_⟩
  by_cases e : sg i = k
  · rw [e] at a3; exact a3
  · have h6 := I.mon2 (sg i) k (by omega) (Nat.le_refl _)
    have h7 := (A.up k I.kM).2.1
    omega
theorem Inv.noop {k : Nat} {ι : Io} {p : Nat → Bool} {a : Act} {w : World} (hS : St vops vbs tm ts env0.length) (I : Inv vops vbs tm ts env0 envF Hb He sg N F ι0 k ι p a w) {i : Nat} {o : Oper} (ho : vops[i]? = some o) (hd : o.dst = none) (hc : clOf o.op = .p) (ht : tb tm i = false) (hbm : ∀ j, tb (bAt vbs i) j = true → p j = true) :
    Inv vops vbs tm ts env0 envF Hb He sg N F ι0 k ι (upd p i) a w := by
  have gj : ∀ j, j ≠ i → upd p i j = p j := fun j hj => upd_ne p hj
  refine ⟨I.kM, fun j x hj hx => ?_, fun j c hc' => ?_, I.t1, I.t2, I.ex, I.hb, fun t => ?_, fun j oj d id e1 e2 e3 e4 e5 e6 e7 => ?_, I.mon1, I.mon2⟩
  · by_cases hxi : x = i
    · rw [hxi]; exact upd_same p i
    · rw [gj x hxi]
      by_cases hji : j = i
      · rw [hji] at hx; exact hbm x hx
      · rw [gj j hji] at hj; exact I.cp j x hj hx
  · have hci : c ≠ i := fun e => by have := ((hS.tin c).1 (List.mem_of_getElem? hc')).1; rw [e, ht] at this; cases this
    rw [gj c hci]; exact I.tv j c hc'
  · have e : sv vops (upd p i) envF env0 t = sv vops p envF env0 t := by
      unfold sv
      have hne : ∀ j, W vops j t → j ≠ i := fun j ⟨oj, h2, h3⟩ e => by rw [e, ho] at h2; cases h2; rw [hd] at h3; cases h3
      have : (∃ j, W vops j t ∧ upd p i j = true) ↔ ∃ j, W vops j t ∧ p j = true :=
        ⟨fun ⟨j, h2, h3⟩ => ⟨j, h2, by rw [gj j (hne j h2)] at h3; exact h3⟩, fun ⟨j, h2, h3⟩ => ⟨j, h2, by rw [gj j (hne j h2)]; exact h3⟩⟩
      by_cases hc2 : ∃ j, W vops j t ∧ p j = true
      · rw [if_pos hc2, if_pos (this.2 hc2)]
      · rw [if_neg hc2, if_neg fun hh => hc2 (this.1 hh)]
    rw [e]; exact I.rv t
  · by_cases hji : j = i
    · rw [hji, ho] at e1; cases e1; rw [hc] at e3; cases e3
    · rw [gj j hji] at e6; exact I.pd j oj d id e1 e2 e3 e4 e5 e6 e7
def Content (ins : Ins) (σ : Operand → V) (ι : Io) (w0 : World) (b : Nat) (listed : Array Bool) : Prop :=
  ∃ (js : List Nat) (entries : Array MapEntry), w0.heap[b]? = some (.map entries entries.size) ∧ entries.size = js.length ∧ (∀ q, q ∈ js ↔ ∃ i k v, ins[q]? = some (i, k, v) ∧ listed.getD i false = true) ∧
    ∀ (x q : Nat), js[x]? = some q → ∃ i k v me, ins[q]? = some (i, k, v) ∧ entries[x]? = some me ∧ RV ι (σ k) me.key ∧ RV ι (σ v) me.val
theorem Content.mono {σ : Operand → V} {ι ι' : Io} {w0 w1 : World} {b : Nat} {listed listed' : Array Bool} (h : Content ins σ ι w0 b listed) (he : Ext ι ι') (hw : w1.heap[b]? = w0.heap[b]?) (hl : ∀ i, IsIns ins i → listed'.getD i false = listed.getD i false) : Content ins σ ι' w1 b listed' := by
  obtain ⟨js, entries, h1, h2, h3, h4⟩ := h
  refine ⟨js, entries, hw.trans h1, h2, fun q => ?_, fun x q hx => let ⟨i, k, v, me, a, b, c, d⟩ := h4 x q hx; ⟨i, k, v, me, a, b, c.mono he, d.mono he⟩⟩
  rw [h3]
  constructor
  · rintro ⟨i, k, v, a, b⟩; exact ⟨i, k, v, a, by rw [hl i ⟨q, k, v, a⟩]; exact b⟩
  · rintro ⟨i, k, v, a, b⟩; exact ⟨i, k, v, a, by rw [← hl i ⟨q, k, v, a⟩]; exact b⟩
def Mid (vops : List Oper) (vbs : List Nat) (tm : Nat) (ts : List Nat) (ins : Ins) (m0 dm : Nat) (env0 envF : Env) (Hb He : Nat → H × Id) (sg : Nat → Nat) (N : Nat) (F : Fx) (ι0 : Io) (listed : Array Bool) (a : Act) (w : World) : Prop :=
  ∃ k ι b w0 hlt, Inv vops vbs tm ts env0 envF Hb He sg N (F.prot b w0 hlt) ι0 k ι (vp ins m0 listed) a w ∧ FB F w0 ∧ F.w.heap.size ≤ b ∧ a.tmps.getD dm undef = .map (some b) ∧ Content ins (evT (sgm vops vbs env0 envF m0)) ι w0 b listed
def LZ (ops vops : List Oper) (vbs : List Nat) (tm : Nat) (ts : List Nat) (ins : Ins) (m0 dm : Nat) (env0 envF : Env) (Hb He : Nat → H × Id) (sg : Nat → Nat) (N : Nat) (F : Fx) (ι0 : Io) (listed : Array Bool) (a : Act) (w : World) : Prop :=
  listed.size = ops.length ∧ K.Closed .any ops listed ∧
    (((listed.getD m0 false = false ∨ AllIn ins m0 listed) ∧ ∃ k ι, Inv vops vbs tm ts env0 envF Hb He sg N F ι0 k ι (vp ins m0 listed) a w) ∨
     (listed.getD m0 false = true ∧ ¬ AllIn ins m0 listed ∧ Mid vops vbs tm ts ins m0 dm env0 envF Hb He sg N F ι0 listed a w))
theorem vp_ne {listed : Array Bool} {j : Nat} (h : j ≠ m0) : vp ins m0 listed j = listed.getD j false := by simp [vp, h]
theorem vp_m0 {listed : Array Bool} : vp ins m0 listed m0 = true ↔ AllIn ins m0 listed := by simp [vp]
theorem vp_m0f {listed : Array Bool} (h : ¬ AllIn ins m0 listed) : vp ins m0 listed m0 = false := by simp [vp, h]
theorem set_get {listed : Array Bool} {i : Nat} (hi : i < listed.size) : (listed.setIfInBounds i true).getD i false = true := by simp [Array.getD_eq_getD_getElem?, hi]
theorem set_get_ne {listed : Array Bool} {i j : Nat} (h : j ≠ i) : (listed.setIfInBounds i true).getD j false = listed.getD j false := by simp [Array.getD_eq_getD_getElem?, Array.getElem?_setIfInBounds_ne (Ne.symm h)]
include L S2 in
theorem lit_ahead {listed : Array Bool} (hcl : K.Closed .any ops listed) {i : Nat} {o : Oper} (ho : ops[i]? = some o) (hall : ∀ e ∈ o.after, Region.binds .any e = true → listed.getD e.on false = true) (hi : i ≠ m0) : ∀ j, tb (bAt vbs i) j = true → vp ins m0 listed j = true := by
  intro j hj
  have hs := S2.sound listed hcl i o ho hall
  obtain ⟨h1, h2⟩ := L.vb i j hi hj
  by_cases e : j = m0
  · subst e
    exact vp_m0.2 ⟨hs _ h1, fun i' hi' => hs i' (h2 rfl i' hi')⟩
  · rw [vp_ne e]; exact hs j h1
include L S S2 hch A hN in
theorem lit_other {listed : Array Bool} {a : Act} {w : World} (Z : LZ ops vops vbs tm ts ins m0 dm env0 envF Hb He sg N F ι0 listed a w) {i : Nat} (hi : i ∈ Region.ready .any ops.toArray listed) (h0 : i ≠ m0) (hni : ¬ IsIns ins i) (Q' : Exit → Act → World → Prop) :
    wpOp P ops.toArray Q' i (LZ ops vops vbs tm ts ins m0 dm env0 envF Hb He sg N F ι0 (listed.setIfInBounds i true)) a w := by
  obtain ⟨hsz, hcl, Z⟩ := Z
  obtain ⟨hi0, o, hoa, hall⟩ := mem_ready.1 hi
  have ho : ops[i]? = some o := by simpa using hoa
  have hil : i < listed.size := by rw [hsz]; exact (List.getElem?_eq_some_iff.1 ho).1
  have hv : vops[i]? = some o := (L.rest i h0 hni).trans ho
  have pi : vp ins m0 listed i = false := by rw [vp_ne h0]; exact K.list_getD_unlisted hi0
  have hb := lit_ahead L S2 hcl ho hall h0
  have all : AllIn ins m0 (listed.setIfInBounds i true) ↔ AllIn ins m0 listed := by
    have e0 : (listed.setIfInBounds i true).getD m0 false = listed.getD m0 false := set_get_ne (Ne.symm h0)
    have e1 : ∀ i', IsIns ins i' → (listed.setIfInBounds i true).getD i' false = listed.getD i' false := fun i' h => set_get_ne fun e => hni (e ▸ h)
    exact ⟨fun ⟨x, y⟩ => ⟨by rw [← e0]; exact x, fun i' h => by rw [← e1 i' h]; exact y i' h⟩, fun ⟨x, y⟩ => ⟨by rw [e0]; exact x, fun i' h => by rw [e1 i' h]; exact y i' h⟩⟩
  have ev : vp ins m0 (listed.setIfInBounds i true) = upd (vp ins m0 listed) i := by
    funext j
    by_cases hj : j = m0
    · subst hj
      rw [upd_ne _ (Ne.symm h0)]
      by_cases hc : AllIn ins j listed
      · rw [vp_m0.2 hc, vp_m0.2 (all.2 hc)]
      · rw [vp_m0f hc, vp_m0f fun h => hc (all.1 h)]
    · by_cases hji : j = i
      · subst hji
        rw [upd_same, vp_ne hj]; exact set_get hil
      · rw [upd_ne _ hji, vp_ne hj, vp_ne hj]; exact set_get_ne hji
  refine lit_wp L (hv.trans ho.symm) ?_
  rcases Z with ⟨hc, k, ι, I⟩ | ⟨hm, hna, k, ι, b, w0, hlt, I, hfb, hge, htm, hcon⟩
  · refine wpOp_mono (fun a' w' ⟨k', ι', _, _, I'⟩ => ⟨by simpa using hsz, K.closed_set hcl hi, .inl ⟨?_, k', ι', by rw [ev]; exact I'⟩⟩) (inv_step S hch A hN I hv pi hb (L.nl i o ho) Q')
    exact hc.imp (fun h => by rw [set_get_ne (Ne.symm h0)]; exact h) all.2
  · refine wpOp_mono (fun a' w' ⟨k', ι', he, hput, I'⟩ => ⟨by simpa using hsz, K.closed_set hcl hi, .inr ⟨by rw [set_get_ne (Ne.symm h0)]; exact hm, fun h => hna (all.1 h), k', ι', b, w0, hlt, by rw [ev]; exact I', hfb, hge, ?_, ?_⟩⟩) (inv_step S hch A hN I hv pi hb (L.nl i o ho) Q')
    · rw [hput dm fun e => h0 (only_dm S L ⟨o, hv, e⟩)]; exact htm
    · exact hcon.mono he rfl fun i' hi' => set_get_ne fun e => hni (e ▸ hi')
include L S S2 hdm hN in
theorem lit_made {listed : Array Bool} {a : Act} {w : World} (Z : LZ ops vops vbs tm ts ins m0 dm env0 envF Hb He sg N F ι0 listed a w) (hi : m0 ∈ Region.ready .any ops.toArray listed) (Q' : Exit → Act → World → Prop) :
    wpOp P ops.toArray Q' m0 (LZ ops vops vbs tm ts ins m0 dm env0 envF Hb He sg N F ι0 (listed.setIfInBounds m0 true)) a w := by
  obtain ⟨hsz, hcl, Z⟩ := Z
  obtain ⟨hi0, o, hoa, hall⟩ := mem_ready.1 hi
  have ho : ops[m0]? = some o := by simpa using hoa
  obtain ⟨o', ho', hop, hgd, hds⟩ := L.m0o
  rw [ho] at ho'; cases ho'
  have hil : m0 < listed.size := by rw [hsz]; exact (List.getElem?_eq_some_iff.1 ho).1
  have hun := K.list_getD_unlisted hi0
  have none' : ∀ i, IsIns ins i → listed.getD i false = false := fun i hin => by
    cases hx : listed.getD i false with
    | false => rfl
    | true =>
      obtain ⟨q, k, v, h1⟩ := hin
      obtain ⟨_, h2, _, _, oi, h3, _⟩ := L.inso q i k v h1
      have := S2.sound listed hcl i oi h3 (hcl i oi h3 hx) m0 h2
      rw [hun] at this; cases this
  have hne : ∀ listed' : Array Bool, (∀ i, IsIns ins i → listed'.getD i false = false) → ¬ AllIn ins m0 listed' := fun listed' h hx => by
    obtain ⟨⟨i, k, v⟩, h1⟩ := L.ne
    have := hx.2 i ⟨0, k, v, h1⟩
    rw [h i ⟨0, k, v, h1⟩] at this; cases this
  have inm : ∀ i, IsIns ins i → i ≠ m0 := fun i ⟨q, k, v, h1⟩ => (L.inso q i k v h1).1
  rcases Z with ⟨hc, k, ι, I⟩ | ⟨hm, _⟩
  · unfold wpOp
    simp only [hoa]
    have hw : Region.wanted o (yielded ops.toArray a.tmps) = true := by simp [Region.wanted, hgd]
    rw [if_pos hw]
    refine .inl ?_
    unfold Oper.wp
    have hrun : (execOp a.eval o).run P w = .ok (.value (.map (some w.heap.size))) (w.alloc (.map #[] 0)) := by
      simp [execOp, hop, run_makeMap, Result.andThen]
    rw [hrun]
    show LZ ops vops vbs tm ts ins m0 dm env0 envF Hb He sg N F ι0 (listed.setIfInBounds m0 true) (a.put o.dst (.map (some w.heap.size))) (w.alloc (.map #[] 0))
    have hb' : HR F ι (He k).1 (He k).2 (w.alloc (.map #[] 0)) := I.hb.grown (World.grownBy_alloc w _ none) (Nat.le_refl _)
    have hneb : ∀ o pl, ι o = some pl → pl.b ≠ w.heap.size := fun o pl e he => by have := (I.hb.dom o pl e).2.2.2; omega
    have hlt : (∀ x, F.pr x ∨ x = w.heap.size → x < (w.alloc (.map #[] 0)).heap.size) ∧ Gi (w.alloc (.map #[] 0)) := ⟨fun x hx => by
      have h1 : (w.alloc (.map #[] 0)).heap.size = w.heap.size + 1 := by simp
      rcases hx with hx | hx
      · have := F.lt x hx; have := I.hb.below.size; omega
      · omega, hb'.below.gi⟩
    have ev : vp ins m0 (listed.setIfInBounds m0 true) = vp ins m0 listed := by
      funext j
      by_cases hj : j = m0
      · subst hj
        rw [vp_m0f (hne _ none'), vp_m0f (hne _ fun i hin => by rw [set_get_ne (inm i hin)]; exact none' i hin)]
      · rw [vp_ne hj, vp_ne hj]; exact set_get_ne hj
    have hdl : dm < N := Nat.lt_of_lt_of_le (by obtain ⟨ov, g1, _, _, _, g2⟩ := L.v0; exact S.dlt m0 ov dm g1 g2) hN
    refine ⟨by simpa using hsz, K.closed_set hcl hi, .inr ⟨set_get hil, hne _ fun i hin => by rw [set_get_ne (inm i hin)]; exact none' i hin, k, ι, w.heap.size, w.alloc (.map #[] 0), hlt, ?_, hb'.below, I.hb.below.size, ?_, ?_⟩⟩
    · rw [ev]
      refine ⟨I.kM, I.cp, I.tv, (put_stat a o.dst _).1.trans I.t1, (put_stat a o.dst _).2.trans I.t2, I.ex, hb'.hide hlt hneb, fun t => ?_, I.pd, I.mon1, I.mon2⟩
      by_cases ht : t = dm
      · subst ht
        have : sv vops (vp ins m0 listed) envF env0 t = .j := by
          unfold sv
          rw [if_neg, hdm]
          rintro ⟨j, h1, h2⟩
          rw [only_dm S L h1, vp_m0f (hne _ none')] at h2; cases h2
        rw [this]; trivial
      · rw [put_other (by rw [hds]; intro e; exact ht (Option.some.inj e).symm)]; exact I.rv t
    · rw [hds, K.put_getD a dm dm _ (by rw [I.t1]; exact hdl), if_pos rfl]
    · exact ⟨[], #[], by simpa using (MapKept.heap_alloc w (.map #[] 0)).1, rfl, fun q => ⟨fun h => (by cases h), fun ⟨i, k, v, h1, h2⟩ => by
        rw [set_get_ne (inm i ⟨q, k, v, h1⟩), none' i ⟨q, k, v, h1⟩] at h2; cases h2⟩, fun x q h => by simp at h⟩
  · rw [hun] at hm; cases hm
include L S S2 A hM hmt in
theorem lit_entry {listed : Array Bool} {a : Act} {w : World} (Z : LZ ops vops vbs tm ts ins m0 dm env0 envF Hb He sg N F ι0 listed a w) {i : Nat} (hi : i ∈ Region.ready .any ops.toArray listed) (hin : IsIns ins i) (Q' : Exit → Act → World → Prop) :
    wpOp P ops.toArray Q' i (LZ ops vops vbs tm ts ins m0 dm env0 envF Hb He sg N F ι0 (listed.setIfInBounds i true)) a w := by
  obtain ⟨hsz, hcl, Z⟩ := Z
  obtain ⟨hi0, o, hoa, hall⟩ := mem_ready.1 hi
  have ho : ops[i]? = some o := by simpa using hoa
  have hil : i < listed.size := by rw [hsz]; exact (List.getElem?_eq_some_iff.1 ho).1
  have hun := K.list_getD_unlisted hi0
  obtain ⟨q, kk, vv, hq⟩ := hin
  obtain ⟨h0, hbm0, ⟨kc, hkc⟩, hval, o', ho', hop, hgd, hds⟩ := L.inso q i kk vv hq
  rw [ho] at ho'; cases ho'
  have hs := S2.sound listed hcl i o ho hall
  have hm0 := hs m0 hbm0
  have hna : ¬ AllIn ins m0 listed := fun hx => by have := hx.2 i ⟨q, kk, vv, hq⟩; rw [hun] at this; cases this
  rcases Z with ⟨hc, _⟩ | ⟨_, _, k, ι, b, w0, hlt, I, hfb, hge, htm, js, entries, c1, c2, c3, c4⟩
  · rcases hc with hc | hc
    · rw [hm0] at hc; cases hc
    · exact absurd hc hna
  have σk : ∀ ι' : Io, RV ι' (evT (sgm vops vbs env0 envF m0) kk) (a.eval kk) := fun ι' => by subst hkc; exact constV_ok ι' kc
  have σv : RV ι (evT (sgm vops vbs env0 envF m0) vv) (a.eval vv) := by
    cases vv with
    | tmp t =>
      have e : sgm vops vbs env0 envF m0 t = sv vops (vp ins m0 listed) envF env0 t := by
        unfold sgm sv
        obtain ⟨ov, v1, v2, v3, _, _⟩ := L.v0
        by_cases hw : ∃ j, W vops j t
        · obtain ⟨j, hj⟩ := hw
          obtain ⟨r1, r2⟩ := hval t j rfl ((lit_W L).1 hj)
          have g1 : tb (bAt vbs m0) j = true := by
            obtain ⟨l, hl⟩ := S.opl m0 ov v1
            have hsl : SlotOf vops ov t := by
              refine .inl ⟨flat2 (ins.map (·.2)), ?_, flat2_mem.2 ⟨(kk, .tmp t), List.mem_map.2 ⟨_, List.mem_of_getElem? hq, rfl⟩, .inr rfl⟩⟩
              exact litArgs_opL v2
            rcases S.slots m0 ov t v1 hsl j hj with g | ⟨g | g, _⟩
            · exact g
            · rw [L.m0t] at g; cases g
            · rw [v3] at g; cases g
          rw [if_pos ⟨j, hj, g1⟩, if_pos ⟨j, hj, by rw [vp_ne r2]; exact hs j r1⟩]
        · rw [if_neg (fun ⟨j, h1, _⟩ => hw ⟨j, h1⟩), if_neg (fun ⟨j, h1, _⟩ => hw ⟨j, h1⟩)]
      show RV ι (sgm vops vbs env0 envF m0 t) _
      rw [e]; exact I.rv t
    | const c => exact constV_ok ι c
    | global g => trivial
    | func f => exact ⟨[], rfl, rfl⟩
  have hkeys : ∀ (q i : Nat) (k v : Operand), ins[q]? = some (i, k, v) → evT (sgm vops vbs env0 envF m0) k = evT (fun _ => .j) k := fun q i k v h => by
    obtain ⟨_, _, ⟨c, e⟩, _⟩ := L.inso q i k v h
    subst e; rfl
  have hdist : Dist (ins.map fun x => (evT (sgm vops vbs env0 envF m0) x.2.1, evT (sgm vops vbs env0 envF m0) x.2.2)) := by
    refine L.dist.keys ?_
    rw [List.map_map, List.map_map]
    refine List.map_congr_left fun x hx => ?_
    obtain ⟨q', hq'⟩ := List.getElem?_of_mem hx
    exact (hkeys q' x.1 x.2.1 x.2.2 hq').symm
  obtain ⟨es, hes⟩ : ∃ es, es = ins.map fun x => (evT (sgm vops vbs env0 envF m0) x.2.1, evT (sgm vops vbs env0 envF m0) x.2.2) := ⟨_, rfl⟩
  have eget : ∀ (q i : Nat) (k v : Operand), ins[q]? = some (i, k, v) → es[q]? = some (evT (sgm vops vbs env0 envF m0) k, evT (sgm vops vbs env0 envF m0) v) := fun q i k v h => by rw [hes, List.getElem?_map, h]; rfl
  rw [← hes] at hdist
  obtain ⟨ut, hk, _⟩ := hM _ _ _ _ _ hmt
  have c1' : w.heap[b]? = some (.map entries entries.size) := (I.hb.below.block b (.inr rfl)).trans c1
  obtain ⟨kn, ka, hkey⟩ : ∃ n a, evT (sgm vops vbs env0 envF m0) kk = .s n a := hdist.text _ (List.mem_of_getElem? (eget q i kk vv hq))
  have hkr : RV ι (V.s kn ka) (a.eval kk) := by rw [← hkey]; exact σk ι
  have hjs : ∀ (x q' : Nat), js[x]? = some q' → ∃ p, es[q']? = some p := fun x q' hx => let ⟨i', k', v', _, h1, _⟩ := c4 x q' hx; ⟨_, eget q' i' k' v' h1⟩
  have hnot : ∃ r, findE 0 (.s kn ka) (js.map fun j => es.getD j (.j, .j)) = some r ∧ r = none := by
    have mem : ∀ p ∈ js.map fun j => es.getD j (.j, .j), p ∈ es := fun p hp => by
      obtain ⟨j, h1, rfl⟩ := List.mem_map.1 hp
      obtain ⟨x, h2⟩ := List.getElem?_of_mem h1
      obtain ⟨p, h3⟩ := hjs x j h2
      rw [List.getD_eq_getElem?_getD, h3]
      exact List.mem_of_getElem? h3
    obtain ⟨r, e1, _, s1⟩ := find_text (n := kn) (a := ka) (m := js.map fun j => es.getD j (.j, .j)) fun p hp => hdist.text p (mem p hp)
    refine ⟨r, e1, ?_⟩
    cases r with
    | none => rfl
    | some x =>
      exfalso
      obtain ⟨p, h1, h2⟩ := s1 x rfl
      rw [List.getElem?_map] at h1
      cases hx : js[x]? with
      | none => rw [hx] at h1; cases h1
      | some q' =>
        rw [hx] at h1
        obtain ⟨p', h3⟩ := hjs x q' hx
        have e : p' = p := by
          have h1 : es.getD q' (.j, .j) = p := Option.some.inj h1
          rw [List.getD_eq_getElem?_getD, h3] at h1; exact h1
        have hqq := hdist.one q' q p' _ h3 (eget q i kk vv hq) (by rw [e, h2]; exact hkey.symm)
        subst hqq
        obtain ⟨i', k', v', h4, h5⟩ := (c3 q').1 (List.mem_of_getElem? hx)
        rw [hq] at h4; cases h4
        rw [hun] at h5; cases h5
  obtain ⟨r0, hf, hr0⟩ := hnot
  subst hr0
  obtain ⟨k1, k2⟩ := key_check hk (key := .s kn ka) rfl hkr w false
  obtain ⟨r, f1, f2⟩ := key_find hk hkr w (es := entries.toList) hf (by simpa using c2) (fun x k' v' hx => by
    rw [List.getElem?_map] at hx
    cases hjx : js[x]? with
    | none => rw [hjx] at hx; cases hx
    | some q' =>
      rw [hjx] at hx
      obtain ⟨i', k2, v2, me, d1, d2, d3, d4⟩ := c4 x q' hjx
      have hx : es.getD q' (.j, .j) = (k', v') := Option.some.inj hx
      rw [List.getD_eq_getElem?_getD, eget q' i' k2 v2 d1] at hx
      have hx : (evT (sgm vops vbs env0 envF m0) k2, evT (sgm vops vbs env0 envF m0) v2) = (k', v') := hx
      cases hx
      exact ⟨me, by simpa using d2, d3⟩)
  have f2 : r = none := f2
  subst f2
  have hmv : a.eval (.tmp dm) = .map (some b) := htm
  obtain ⟨entries', hen⟩ : ∃ entries' : Array MapEntry, entries' = entries.push { key := a.eval kk, val := a.eval vv, born := entries.size } := ⟨_, rfl⟩
  have hrun : (execOp a.eval o).run P w = .ok .skip { w with heap := w.heap.setIfInBounds b (.map entries' entries'.size) } := by
    rw [hen]
    simp [execOp, hop, hmv, Instr.mapUpdate, run_underlying ut, Go.MapKept.run_getObj_map c1', k1, f1, Result.andThen, Go.MapKept.run_setObj_map _ c1']
  have hbl : b < w.heap.size := (Array.getElem?_eq_some_iff.1 c1').1
  unfold wpOp
  simp only [hoa]
  have hw : Region.wanted o (yielded ops.toArray a.tmps) = true := by simp [Region.wanted, hgd]
  rw [if_pos hw]
  refine .inl ?_
  unfold Oper.wp
  rw [hrun]
  show LZ ops vops vbs tm ts ins m0 dm env0 envF Hb He sg N F ι0 (listed.setIfInBounds i true) (a.put o.dst undef) { w with heap := w.heap.setIfInBounds b (.map entries' entries'.size) }
  rw [hds]
  show LZ ops vops vbs tm ts ins m0 dm env0 envF Hb He sg N F ι0 (listed.setIfInBounds i true) a { w with heap := w.heap.setIfInBounds b (.map entries' entries'.size) }
  obtain ⟨w', hw'⟩ : ∃ w' : World, w' = { w with heap := w.heap.setIfInBounds b (.map entries' entries'.size) } := ⟨_, rfl⟩
  have hnp : ¬ F.pr b := fun hp => by have := F.lt b hp; omega
  have hfb' : FB F w' := by subst hw'; exact hfb.behind I.hb.below hnp _
  have hlt' : (∀ x, F.pr x ∨ x = b → x < w'.heap.size) ∧ Gi w' := ⟨fun x hx => by
    rw [hw']
    simp only [Array.size_setIfInBounds]
    exact Nat.lt_of_lt_of_le (hlt.1 x hx) I.hb.below.size, hfb'.gi⟩
  have hb2 : HR (F.prot b w' hlt') ι (He k).1 (He k).2 w' := by subst hw'; exact I.hb.behind _ hlt'
  have c1n : w'.heap[b]? = some (.map entries' entries'.size) := by rw [hw']; simp [hbl]
  have hcon : Content ins (evT (sgm vops vbs env0 envF m0)) ι w' b (listed.setIfInBounds i true) := by
    refine ⟨js ++ [q], entries', c1n, by rw [hen]; simp [c2], fun q' => ?_, fun x q' hx => ?_⟩
    · rw [List.mem_append, List.mem_singleton, c3]
      constructor
      · rintro (⟨i', k', v', h1, h2⟩ | rfl)
        · have hne : i' ≠ i := fun e => by rw [e, hun] at h2; cases h2
          exact ⟨i', k', v', h1, by rw [set_get_ne hne]; exact h2⟩
        · exact ⟨i, kk, vv, hq, set_get hil⟩
      · rintro ⟨i', k', v', h1, h2⟩
        by_cases hne : i' = i
        · subst hne; exact .inr (L.insn _ _ _ _ _ _ _ h1 hq)
        · rw [set_get_ne hne] at h2; exact .inl ⟨i', k', v', h1, h2⟩
    · rw [List.getElem?_append] at hx
      split at hx
      · rename_i hxl
        obtain ⟨i', k', v', me, d1, d2, d3⟩ := c4 x q' hx
        exact ⟨i', k', v', me, d1, by rw [hen, Array.getElem?_push, if_neg (by omega)]; exact d2, d3⟩
      · rename_i hxl
        have hx0 : x = js.length := by
          have := (List.getElem?_eq_some_iff.1 hx).1
          simp at this; omega
        subst hx0
        simp at hx
        subst hx
        exact ⟨i, kk, vv, _, hq, by rw [hen, Array.getElem?_push, if_pos c2.symm], σk ι, σv⟩
  obtain ⟨htmi, ov, hv1, hv2, hv3⟩ := L.insv i ⟨q, kk, vv, hq⟩
  have hbi := lit_ahead L S2 hcl ho hall h0
  have I2 : Inv vops vbs tm ts env0 envF Hb He sg N (F.prot b w' hlt') ι0 k ι (vp ins m0 listed) a w' := ⟨I.kM, I.cp, I.tv, I.t1, I.t2, I.ex, hb2, I.rv, I.pd, I.mon1, I.mon2⟩
  have I3 := I2.noop S hv1 hv3 hv2 htmi hbi
  rw [← hw']
  by_cases hfull : AllIn ins m0 (listed.setIfInBounds i true)
  case neg =>
    have ev : vp ins m0 (listed.setIfInBounds i true) = upd (vp ins m0 listed) i := by
      funext j
      by_cases hj : j = m0
      · subst hj
        rw [upd_ne _ (Ne.symm h0), vp_m0f hfull, vp_m0f hna]
      · by_cases hji : j = i
        · subst hji
          rw [upd_same, vp_ne hj]; exact set_get hil
        · rw [upd_ne _ hji, vp_ne hj, vp_ne hj]; exact set_get_ne hji
    exact ⟨by simpa using hsz, K.closed_set hcl hi, .inr ⟨by rw [set_get_ne (Ne.symm h0)]; exact hm0, hfull, k, ι, b, w', hlt', by rw [ev]; exact I3, hfb', hge, htm, hcon⟩⟩
  obtain ⟨o0, z1, z2, z3, z4, z5⟩ := L.v0
  have ev : vp ins m0 (listed.setIfInBounds i true) = upd (upd (vp ins m0 listed) i) m0 := by
    funext j
    by_cases hj : j = m0
    · subst hj
      rw [upd_same, vp_m0.2 hfull]
    · rw [upd_ne _ hj]
      by_cases hji : j = i
      · subst hji
        rw [upd_same, vp_ne hj]; exact set_get hil
      · rw [upd_ne _ hji, vp_ne hj, vp_ne hj]; exact set_get_ne hji
  have hcl' := K.closed_set hcl hi
  have pm0 : upd (vp ins m0 listed) i m0 = false := by rw [upd_ne _ (Ne.symm h0), vp_m0f hna]
  have ahead : ∀ j, tb (bAt vbs m0) j = true → upd (vp ins m0 listed) i j = true := fun j hj => by
    obtain ⟨h1, h2⟩ := L.vb0 j hj
    have key : (listed.setIfInBounds i true).getD j false = true := by
      rcases h2 with h2 | ⟨i', h2, h3⟩
      · obtain ⟨om, q1, _⟩ := L.m0o
        exact S2.sound _ hcl' m0 om q1 (hcl' m0 om q1 hfull.1) j h2
      · obtain ⟨q', k', v', h4⟩ := h2
        obtain ⟨_, _, _, _, oi, h5, _⟩ := L.inso q' i' k' v' h4
        exact S2.sound _ hcl' i' oi h5 (hcl' i' oi h5 (hfull.2 i' ⟨q', k', v', h4⟩)) j h3
    by_cases hji : j = i
    · subst hji; exact upd_same _ _
    · rw [upd_ne _ hji, vp_ne h1]
      rw [set_get_ne hji] at key; exact key
  have hcm : Compat vbs ts m0 k := ⟨fun j c h1 h2 => (I3.tv j c h1).1 (ahead c h2), fun j c h1 h2 => by
    cases hx : tb (bAt vbs c) m0 with
    | false => rfl
    | true => have := I3.cp c m0 ((I3.tv j c h1).2 h2) hx; rw [pm0] at this; cases this⟩
  obtain ⟨hsg, v, hV, hx⟩ := A.st k I3.kM m0 o0 z1 L.m0t hcm
  have hwant : wantS vops o0 (sgm vops vbs env0 envF m0) = some true := by unfold wantS; rw [z4]
  rcases hx with ⟨hx, _⟩ | ⟨_, hx⟩
  · rw [hwant] at hx; cases hx
  rcases hx with ⟨hx, _⟩ | ⟨_, id, x, mk, hx, hvm, hg⟩
  · exact absurd z3 hx
  unfold AlX at hx
  rw [z2] at hx
  obtain ⟨hx1, hx2, _⟩ := hx
  rw [pairs_flat, List.map_map] at hx1
  have hx1 : x = .lm es := by rw [hx1, hes]; rfl
  subst hx2 hx1
  have hvid : vId (rd envF dm) = some id := by rw [hV dm z5, hvm]; rfl
  obtain ⟨l1, l2, l3⟩ := Inv.idf A I3 z1 L.m0t z3 z5 hvid hsg
  have hnone := I3.pd m0 o0 dm id z1 L.m0t z3 z5 hvid pm0 hsg
  have hbF : HR F ι (He k).1 (He k).2 w' := hb2.out hfb'
  obtain ⟨js', entries2, d1, d2, d3, d4⟩ := hcon
  rw [c1n] at d1
  have d1 := (Obj.map.inj (Option.some.inj d1)).1
  subst d1
  have hext : Ext ι (upI ι id ⟨b, 0, 0⟩) := fun o pl' e => by rw [upI_ne]; exact e; intro e'; rw [e', hnone] at e; cases e
  have hok : OOk (upI ι id ⟨b, 0, 0⟩) w' ⟨b, 0, 0⟩ (.lm es) := by
    refine ⟨hdist, js', entries', c1n, d2, fun j hj => ?_, fun x q' hx => ?_⟩
    · have hjl : j < ins.length := by rw [hes] at hj; simpa using hj
      have : ins[j]? = some (ins[j].1, ins[j].2.1, ins[j].2.2) := List.getElem?_eq_getElem hjl
      exact (d3 j).2 ⟨_, _, _, this, hfull.2 _ ⟨j, _, _, this⟩⟩
    · obtain ⟨i', k', v', me, e1, e2, e3, e4⟩ := d4 x q' hx
      exact ⟨_, me, eget q' i' k' v' e1, e2, e3.mono hext, e4.mono hext⟩
  obtain ⟨hbN, _⟩ := hbF.show l1 l3 hnone l2 hg ⟨b, 0, 0⟩ hnp (by rw [hw']; simpa using hbl) (hb2.seen) hok
  refine ⟨by simpa using hsz, hcl', .inl ⟨.inr hfull, k, upI ι id ⟨b, 0, 0⟩, ?_⟩⟩
  rw [ev]
  have gj : ∀ j, j ≠ m0 → upd (upd (vp ins m0 listed) i) m0 j = upd (vp ins m0 listed) i j := fun j hj => upd_ne _ hj
  refine ⟨I3.kM, fun j y hj hy => ?_, fun j c hc => ?_, I3.t1, I3.t2, I3.ex.trans hext, hbN, fun t => ?_, fun j oj d' id' e1 e2 e3 e4 e5 e6 e7 => ?_, I3.mon1, I3.mon2⟩
  · by_cases hy0 : y = m0
    · rw [hy0]; exact upd_same _ _
    · rw [gj y hy0]
      by_cases hj0 : j = m0
      · rw [hj0] at hy; exact ahead y hy
      · rw [gj j hj0] at hj; exact I3.cp j y hj hy
  · have hc0 : c ≠ m0 := fun e => by have := ((S.tin c).1 (List.mem_of_getElem? hc)).1; rw [e, L.m0t] at this; cases this
    rw [gj c hc0]; exact I3.tv j c hc
  · by_cases ht : t = dm
    · subst ht
      have e : sv vops (upd (upd (vp ins m0 listed) i) m0) envF env0 t = .mp id := by
        unfold sv
        rw [if_pos ⟨m0, ⟨o0, z1, z5⟩, upd_same _ _⟩]
        exact (hV t z5).trans hvm
      rw [e]
      exact ⟨⟨b, 0, 0⟩, upI_same _ _ _, htm⟩
    · have e : sv vops (upd (upd (vp ins m0 listed) i) m0) envF env0 t = sv vops (upd (vp ins m0 listed) i) envF env0 t := by
        unfold sv
        have hne : ∀ j, W vops j t → j ≠ m0 := fun j ⟨oj, h2, h3⟩ e => by rw [e, z1] at h2; cases h2; rw [z5] at h3; exact ht (Option.some.inj h3).symm
        have : (∃ j, W vops j t ∧ upd (upd (vp ins m0 listed) i) m0 j = true) ↔ ∃ j, W vops j t ∧ upd (vp ins m0 listed) i j = true :=
          ⟨fun ⟨j, h2, h3⟩ => ⟨j, h2, by rw [gj j (hne j h2)] at h3; exact h3⟩, fun ⟨j, h2, h3⟩ => ⟨j, h2, by rw [gj j (hne j h2)]; exact h3⟩⟩
        by_cases hc2 : ∃ j, W vops j t ∧ upd (vp ins m0 listed) i j = true
        · rw [if_pos hc2, if_pos (this.2 hc2)]
        · rw [if_neg hc2, if_neg fun hh => hc2 (this.1 hh)]
      rw [e]; exact (I3.rv t).mono hext
  · have hj0 : j ≠ m0 := fun e => by rw [e, upd_same] at e6; cases e6
    rw [gj j hj0] at e6
    have hne : id' ≠ id := fun e => by
      subst e
      by_cases hs : sg j = sg m0
      · exact hj0 (A.ald j oj d' id' m0 o0 dm e1 e2 e3 e4 e5 z1 L.m0t z3 z5 hvid hs)
      · obtain ⟨_, q1, q2⟩ := A.al j oj d' id' e1 e2 e3 e4 e5
        obtain ⟨_, q3, q4⟩ := A.al m0 o0 dm id' z1 L.m0t z3 z5 hvid
        rcases Nat.lt_or_gt_of_ne hs with h1 | h1
        · have := I3.mon2 (sg j) (sg m0) h1 hsg; omega
        · have := I3.mon2 (sg m0) (sg j) h1 e7; omega
    rw [upI_ne _ _ hne]
    exact I3.pd j oj d' id' e1 e2 e3 e4 e5 e6 e7
include L S S2 hch A hN hM hmt hdm in
theorem lit_run (hm : P.follows .mixedOrders = true) {id : Nat} : WX P N (.region id ops.toArray true) env0 a0.1 a0.2 .normal envF aF.1 aF.2 := by
  intro F ι0 a w hx
  obtain ⟨h1, h2, h3, ι, he, hb, hv⟩ := hx
  have hb' : HR F ι a0.1 a0.2 { w with drawn := w.drawn + 1 } := hb.grown ⟨rfl, rfl, rfl, Nat.le_refl _, fun _ _ _ => rfl⟩ (Nat.le_succ _)
  have z : ∀ j, (Array.replicate ops.length false).getD j false = false := fun j => by
    simp [Array.getD_eq_getD_getElem?, Array.getElem?_replicate]; split <;> rfl
  have z' : ∀ j, (Array.replicate ops.toArray.size false).getD j false = false := fun j => by simpa using z j
  have done : ∀ (listed : Array Bool) (a : Act) (w : World), LZ ops vops vbs tm ts ins m0 dm env0 envF Hb He sg N F ι0 listed a w → (∀ i, i < ops.length → listed.getD i false = true) → XRel N F ι0 envF aF.1 aF.2 a w := by
    intro listed a w ⟨_, _, Z⟩ hall
    have hful : AllIn ins m0 listed := by
      obtain ⟨om, q1, _⟩ := L.m0o
      exact ⟨hall m0 (List.getElem?_eq_some_iff.1 q1).1, fun i ⟨q, k, v, h4⟩ => by
        obtain ⟨_, _, _, _, oi, h5, _⟩ := L.inso q i k v h4
        exact hall i (List.getElem?_eq_some_iff.1 h5).1⟩
    rcases Z with ⟨_, k, ι, I⟩ | ⟨_, hna, _⟩
    · refine inv_done S A hN (fun i hi => ?_) I
      by_cases e : i = m0
      · subst e; exact vp_m0.2 hful
      · rw [vp_ne e]; exact hall i (by rw [← L.len]; exact hi)
    · exact absurd hful hna
  have step : ∀ (Q' : Exit → Act → World → Prop) (listed : Array Bool) (a : Act) (w : World), LZ ops vops vbs tm ts ins m0 dm env0 envF Hb He sg N F ι0 listed a w → ∀ i ∈ Region.ready .any ops.toArray listed,
      wpOp P ops.toArray Q' i (LZ ops vops vbs tm ts ins m0 dm env0 envF Hb He sg N F ι0 (listed.setIfInBounds i true)) a w := by
    intro Q' listed a w Z i hi
    by_cases h0 : i = m0
    · subst h0; exact lit_made L S S2 hN hdm Z hi Q'
    · by_cases hin : IsIns ins i
      · exact lit_entry L S S2 A hM hmt Z hi hin Q'
      · exact lit_other L S S2 hch A hN Z hi h0 hin Q'
  have strt : ∀ j, vp ins m0 (Array.replicate ops.toArray.size false) j = false := fun j => by
    by_cases e : j = m0
    · subst e; exact vp_m0f fun h => by have := h.1; rw [z' j] at this; cases this
    · rw [vp_ne e]; exact z' j
  refine wp_region_any hm (any_run (Z := LZ ops vops vbs tm ts ins m0 dm env0 envF Hb He sg N F ι0) S2.back (fun _ _ _ h => h.1)
    (fun listed a w Z hall => ⟨rfl, done listed a w Z hall⟩) (step _) _ _ _ _ (by simpa using unl_le _ ops.length) ⟨by simp, fun i o ho hl => (by rw [z' i] at hl; cases hl), .inl ⟨.inl (z' m0), 0, ι, inv_start A strt h1 h2 he hb' hv⟩⟩)
end
end Go.Proofs.Nw.X
end
section
/- X22: .. and their evaluator. -/
open Go Go.RowKit
set_option linter.unusedVariables false
set_option linter.unusedSimpArgs false
set_option linter.constructorNameAsVariable false
namespace Go.Proofs.Nw.X
open Go.Proofs.Nw.K
noncomputable def insOf (l : List Oper) : Nat → Ins :=
  List.rec (motive := fun _ => Nat → Ins) (fun _ => []) (fun o _ ih i => match o.op with
    | .insert _ _ k v => (i, k, v) :: fN (Nat.succ i) ih
    | _ => fN (Nat.succ i) ih) l
noncomputable def litHd (l : List Oper) : Option (TypeId × Nat) := List.rec none (fun o _ ih => match o.op with | .insert mt (.tmp dm) _ _ => some (mt, dm) | _ => ih) l
noncomputable def mkAt (dm : Nat) (l : List Oper) : Nat → Nat :=
  List.rec (motive := fun _ => Nat → Nat) (fun _ => 0) (fun o _ ih i => match o.dst with | some d => cond (Nat.beq d dm) i (fN (Nat.succ i) ih) | none => fN (Nat.succ i) ih) l
noncomputable def vop (m0 : Nat) (args : List Operand) (i : Nat) (o : Oper) : Oper :=
  cond (Nat.beq i m0) { o with op := .call ⟨.builtin .print, ⟨args⟩, #[]⟩ } (match o.op with | .insert _ _ _ _ => { o with op := .assign (.const (.bool true)) } | _ => o)
noncomputable def mapI {α : Type} (f : Nat → α → α) (l : List α) : Nat → List α := List.rec (motive := fun _ => Nat → List α) (fun _ => []) (fun o _ ih i => f i o :: fN (Nat.succ i) ih) l
noncomputable def del (m i : Nat) : Nat := Nat.xor m (Nat.land m (Nat.pow 2 i))
noncomputable def lmOf (m0 : Nat) (ins : Ins) : Nat := List.rec (put1 0 m0) (fun p _ ih => put1 ih p.1) ins
noncomputable def orI (rbs : List Nat) (m0 : Nat) (ins : Ins) : Nat := List.rec (bAt rbs m0) (fun p _ ih => Nat.lor ih (bAt rbs p.1)) ins
noncomputable def vbm (m0 lm or0 : Nat) (i b : Nat) : Nat := cond (Nat.beq i m0) (del or0 m0) (cond (sub lm b) b (del b m0))
theorem insOf_cons (o : Oper) (l : List Oper) (i : Nat) : insOf (o :: l) i = (match o.op with | .insert _ _ k v => (i, k, v) :: insOf l (i + 1) | _ => insOf l (i + 1)) := by
  show (match o.op with | .insert _ _ k v => (i, k, v) :: fN (Nat.succ i) (insOf l) | _ => fN (Nat.succ i) (insOf l)) = _
  rw [fN_eq]
theorem insOf_is : ∀ {l : List Oper} {i0 q i : Nat} {k v : Operand}, (insOf l i0)[q]? = some (i, k, v) → i0 ≤ i ∧ ∃ o t m, l[i - i0]? = some o ∧ o.op = .insert t m k v
  | [], i0, q, i, k, v, h => by have h : ([] : Ins)[q]? = some (i, k, v) := h; simp at h
  | o :: l, i0, q, i, k, v, h => by
    have go : ∀ q, (insOf l (i0 + 1))[q]? = some (i, k, v) → i0 ≤ i ∧ ∃ o' t m, (o :: l)[i - i0]? = some o' ∧ o'.op = .insert t m k v := fun q h => by
      obtain ⟨h1, o', t, m, h2, h3⟩ := insOf_is h
      exact ⟨by omega, o', t, m, by rw [show i - i0 = (i - (i0 + 1)) + 1 by omega]; simpa using h2, h3⟩
    rw [insOf_cons] at h
    split at h
    · rename_i t m k' v' ho
      cases q with
      | zero =>
        simp at h
        obtain ⟨rfl, rfl, rfl⟩ := h
        exact ⟨Nat.le_refl _, o, t, m, by simp, ho⟩
      | succ q => exact go q (by simpa using h)
    · exact go q h
theorem insOf_all : ∀ {l : List Oper} {i0 i : Nat} {o : Oper} {t : TypeId} {m k v : Operand}, l[i]? = some o → o.op = .insert t m k v → ∃ q : Nat, (insOf l i0)[q]? = some (i0 + i, k, v)
  | [], i0, i, o, t, m, k, v, h, ho => by simp at h
  | o' :: l, i0, 0, o, t, m, k, v, h, ho => by
    simp at h
    subst h
    refine ⟨0, ?_⟩
    rw [insOf_cons, ho]
    rfl
  | o' :: l, i0, i + 1, o, t, m, k, v, h, ho => by
    obtain ⟨q, h1⟩ := insOf_all (i0 := i0 + 1) (show l[i]? = some o by simpa using h) ho
    rw [show i0 + 1 + i = i0 + (i + 1) by omega] at h1
    rw [insOf_cons]
    split
    · exact ⟨q + 1, by simpa using h1⟩
    · exact ⟨q, h1⟩
theorem insOf_lt : ∀ {l : List Oper} {i0 q q' i i' : Nat} {k v k' v' : Operand}, (insOf l i0)[q]? = some (i, k, v) → (insOf l i0)[q']? = some (i', k', v') → q < q' → i < i'
  | [], i0, q, q', i, i', k, v, k', v', h, _, _ => by have h : ([] : Ins)[q]? = some (i, k, v) := h; simp at h
  | o :: l, i0, q, q', i, i', k, v, k', v', h, h', hlt => by
    rw [insOf_cons] at h h'
    split at h
    · rename_i t m k1 v1 ho
      rw [ho] at h'
      have h' : ((i0, k1, v1) :: insOf l (i0 + 1))[q']? = some (i', k', v') := h'
      cases q' with
      | zero => omega
      | succ q' =>
        have h2 : (insOf l (i0 + 1))[q']? = some (i', k', v') := by simpa using h'
        cases q with
        | zero =>
          simp at h
          have := (insOf_is h2).1
          omega
        | succ q => exact insOf_lt (show (insOf l (i0 + 1))[q]? = some (i, k, v) by simpa using h) h2 (by omega)
    · rename_i hno
      have h2 : (insOf l (i0 + 1))[q']? = some (i', k', v') := by
        split at h'
        · rename_i t m k1 v1 ho; exact absurd ho (hno t m k1 v1)
        · exact h'
      exact insOf_lt h h2 hlt
theorem mapI_get {α : Type} {f : Nat → α → α} : ∀ {l : List α} {i0 i : Nat}, (mapI f l i0)[i]? = (l[i]?).map (f (i0 + i))
  | [], i0, i => by show ([] : List α)[i]? = _; simp
  | o :: l, i0, i => by
    show (f i0 o :: fN (Nat.succ i0) (mapI f l))[i]? = _
    rw [fN_eq]
    cases i with
    | zero => simp
    | succ i =>
      have := mapI_get (f := f) (l := l) (i0 := i0 + 1) (i := i)
      rw [show i0 + 1 + i = i0 + (i + 1) by omega] at this
      simpa using this
theorem mapI_len {α : Type} {f : Nat → α → α} : ∀ {l : List α} {i0 : Nat}, (mapI f l i0).length = l.length
  | [], i0 => rfl
  | o :: l, i0 => by
    show (f i0 o :: fN (Nat.succ i0) (mapI f l)).length = _
    rw [fN_eq, List.length_cons, List.length_cons, mapI_len]
theorem tb_del (m i j : Nat) : tb (del m i) j = (tb m j && !decide (j = i)) := by
  unfold del
  rw [tb_eq, tb_eq]
  show (m ^^^ (m &&& 2 ^ i)).testBit j = _
  rw [Nat.testBit_xor, Nat.testBit_and, Nat.testBit_two_pow]
  by_cases h : i = j
  · subst h; cases m.testBit i <;> simp
  · have h' : ¬ j = i := fun e => h e.symm
    simp [h, h']
theorem lmOf_tb {m0 : Nat} : ∀ {ins : Ins} {q i : Nat} {k v : Operand}, ins[q]? = some (i, k, v) → tb (lmOf m0 ins) i = true
  | [], q, i, k, v, h => by simp at h
  | p :: r, q, i, k, v, h => by
    show tb (put1 (lmOf m0 r) p.1) i = true
    rw [tb_put]
    cases q with
    | zero => simp at h; subst h; simp
    | succ q => rw [lmOf_tb (m0 := m0) (show r[q]? = some (i, k, v) by simpa using h)]; rfl
theorem orI_tb {rbs : List Nat} {m0 j : Nat} : ∀ {ins : Ins}, tb (orI rbs m0 ins) j = true → tb (bAt rbs m0) j = true ∨ ∃ i, IsIns ins i ∧ tb (bAt rbs i) j = true
  | [], h => .inl h
  | p :: r, h => by
    have h : tb (Nat.lor (orI rbs m0 r) (bAt rbs p.1)) j = true := h
    rw [tb_lor, Bool.or_eq_true] at h
    rcases h with h | h
    · rcases orI_tb h with h | ⟨i, ⟨q, k, v, h1⟩, h2⟩
      · exact .inl h
      · exact .inr ⟨i, ⟨q + 1, k, v, by simpa using h1⟩, h2⟩
    · exact .inr ⟨p.1, ⟨0, p.2.1, p.2.2, rfl⟩, h⟩
theorem tsOf_is {p : Op → Bool} : ∀ {l : List Oper} {i0 c : Nat}, c ∈ tsOf p l i0 → i0 ≤ c ∧ ∃ o, l[c - i0]? = some o ∧ p o.op = true
  | [], i0, c, h => by cases h
  | o :: l, i0, c, h => by
    have e : tsOf p (o :: l) i0 = cond (p o.op) (i0 :: tsOf p l (i0 + 1)) (tsOf p l (i0 + 1)) := by
      show cond (p o.op) (i0 :: fN (Nat.succ i0) (tsOf p l)) (fN (Nat.succ i0) (tsOf p l)) = _
      rw [fN_eq]
    rw [e] at h
    have go : c ∈ tsOf p l (i0 + 1) → i0 ≤ c ∧ ∃ o', (o :: l)[c - i0]? = some o' ∧ p o'.op = true := fun h => by
      obtain ⟨h1, o', h2, h3⟩ := tsOf_is h
      exact ⟨by omega, o', by rw [show c - i0 = (c - (i0 + 1)) + 1 by omega]; simpa using h2, h3⟩
    cases hp : p o.op with
    | false => rw [hp] at h; exact go h
    | true =>
      rw [hp] at h
      rcases List.mem_cons.1 h with rfl | h
      · exact ⟨Nat.le_refl _, o, by simp, hp⟩
      · exact go h
section
variable (ops : List Oper) (rbs : List Nat) (mt dm m0 : Nat)
noncomputable def slI (i t : Nat) : Bool := allI (fun j oj => match oj.dst with | some d => cond (Nat.beq d t) (cond (tb (bAt rbs i) j) (cond (Nat.beq j m0) false true) false) true | none => true) ops 0
noncomputable def chkL (i : Nat) (o : Oper) : Bool :=
  cond (Nat.beq i m0)
    (match o.op, o.guard, o.dst with | .makeMap t none, none, some d => cond (Nat.beq t mt) (Nat.beq d dm) false | _, _, _ => false)
    (match o.op with
      | .insert t m (.const _) v => (match m, o.guard, o.dst with
        | .tmp d, none, none => cond (Nat.beq t mt) (cond (Nat.beq d dm) (cond (tb (bAt rbs i) m0) (match v with | .tmp t => slI ops rbs m0 i t | _ => true) false) false) false
        | _, _, _ => false)
      | .insert _ _ _ _ => false
      | _ => true)
end
noncomputable def chkM (ops vops : List Oper) (rbs vbs : List Nat) (tm len mt dm m0 : Nat) (ins : Ins) : Bool :=
  cond (allI (fun i o => cond (chkA rbs i o) (cond (nlB o.op) (chkL ops rbs mt dm m0 i o) false) false) ops 0)
    (cond (allI (chkB vops vbs tm len) vops 0)
      (cond (match getL m0 ops with | some _ => true | none => false)
        (cond (match ins with | [] => false | _ => true) (distB (mapL (fun x => (evT (fun _ => V.j) x.2.1, V.j)) ins)) false) false) false) false
theorem lit_chk {T : Tab} {ops : List Oper} {rbs : List Nat} {len mt dm m0 : Nat} (h : chkM ops (mapI (vop m0 (flat2 (mapL (·.2) (insOf ops 0)))) ops 0) rbs (mapI (vbm m0 (lmOf m0 (insOf ops 0)) (orI rbs m0 (insOf ops 0))) rbs 0)
      (tmOf (tsOf (isTurn T) (mapI (vop m0 (flat2 (mapL (·.2) (insOf ops 0)))) ops 0) 0)) len mt dm m0 (insOf ops 0) = true) :
    LitOk ops (mapI (vop m0 (flat2 (mapL (·.2) (insOf ops 0)))) ops 0) rbs (mapI (vbm m0 (lmOf m0 (insOf ops 0)) (orI rbs m0 (insOf ops 0))) rbs 0)
      (tmOf (tsOf (isTurn T) (mapI (vop m0 (flat2 (mapL (·.2) (insOf ops 0)))) ops 0) 0)) m0 dm mt (insOf ops 0) ∧ St2 ops rbs ∧
    St (mapI (vop m0 (flat2 (mapL (·.2) (insOf ops 0)))) ops 0) (mapI (vbm m0 (lmOf m0 (insOf ops 0)) (orI rbs m0 (insOf ops 0))) rbs 0)
      (tmOf (tsOf (isTurn T) (mapI (vop m0 (flat2 (mapL (·.2) (insOf ops 0)))) ops 0) 0)) (tsOf (isTurn T) (mapI (vop m0 (flat2 (mapL (·.2) (insOf ops 0)))) ops 0) 0) len := by
  obtain ⟨ins, hins⟩ : ∃ ins, ins = insOf ops 0 := ⟨_, rfl⟩
  obtain ⟨vops, hvops⟩ : ∃ vops, vops = mapI (vop m0 (flat2 (mapL (·.2) (insOf ops 0)))) ops 0 := ⟨_, rfl⟩
  obtain ⟨vbs, hvbs⟩ : ∃ vbs, vbs = mapI (vbm m0 (lmOf m0 (insOf ops 0)) (orI rbs m0 (insOf ops 0))) rbs 0 := ⟨_, rfl⟩
  rw [← hvops, ← hvbs, ← hins] at h ⊢
  unfold chkM at h
  obtain ⟨c1, h⟩ := cond_and h
  obtain ⟨c2, h⟩ := cond_and h
  obtain ⟨c3, h⟩ := cond_and h
  obtain ⟨c4, c5⟩ := cond_and h
  have B : ∀ (i : Nat) (o : Oper), ops[i]? = some o → chkA rbs i o = true ∧ nlB o.op = true ∧ chkL ops rbs mt dm m0 i o = true := fun i o ho => by
    have := allI_ok0 c1 i o ho
    obtain ⟨h1, this⟩ := cond_and this
    exact ⟨h1, cond_and this⟩
  have vget : ∀ i : Nat, vops[i]? = (ops[i]?).map (vop m0 (flat2 (ins.map (·.2))) i) := fun i => by
    rw [hvops, mapI_get, Nat.zero_add, ← hins, mapL_eq]
  have vget' : ∀ (i : Nat) (o : Oper), ops[i]? = some o → vops[i]? = some (vop m0 (flat2 (ins.map (·.2))) i o) := fun i o ho => by rw [vget, ho]; rfl
  obtain ⟨om, hom⟩ : ∃ om, ops[m0]? = some om := by
    rw [getL_eq] at c3
    cases hx : ops[m0]? with
    | none => rw [hx] at c3; cases c3
    | some o => exact ⟨o, rfl⟩
  have hself : ∀ x : Nat, Nat.beq x x = true := fun x => by rw [beq_eq]; simp
  obtain ⟨m1, m2, m3⟩ : om.op = .makeMap mt none ∧ om.guard = none ∧ om.dst = some dm := by
    have := (B m0 om hom).2.2
    unfold chkL at this
    rw [hself] at this
    simp only [cond_true] at this
    split at this
    · rename_i t d e1 e2 e3
      obtain ⟨q1, q2⟩ := cond_and this
      rw [e1, e2, e3, nbeq q1, nbeq q2]
      exact ⟨rfl, rfl, rfl⟩
    · cases this
  have hne : ∀ {i : Nat} {o : Oper} {t : TypeId} {m k v : Operand}, ops[i]? = some o → o.op = .insert t m k v → i ≠ m0 := fun {i o t m k v} h1 h2 e => by
    subst e
    rw [hom] at h1; cases h1
    rw [m1] at h2; cases h2
  have bf : ∀ {i : Nat}, i ≠ m0 → Nat.beq i m0 = false := fun {i} h => by rw [beq_eq]; simp [h]
  have ient : ∀ (q i : Nat) (k v : Operand), ins[q]? = some (i, k, v) → ∃ o t m, ops[i]? = some o ∧ o.op = .insert t m k v := fun q i k v h => by
    rw [hins] at h
    obtain ⟨_, o, t, m, h1, h2⟩ := insOf_is h
    exact ⟨o, t, m, by simpa using h1, h2⟩
  have iall : ∀ {i : Nat} {o : Oper} {t : TypeId} {m k v : Operand}, ops[i]? = some o → o.op = .insert t m k v → IsIns ins i := fun {i o t m k v} h1 h2 => by
    obtain ⟨q, h3⟩ := insOf_all (i0 := 0) h1 h2
    rw [Nat.zero_add, ← hins] at h3
    exact ⟨q, k, v, h3⟩
  have vtm : ∀ (i : Nat) (o : Oper), vops[i]? = some o → isTurn T o.op = false → tb (tmOf (tsOf (isTurn T) vops 0)) i = false := fun i o h1 h2 => by
    cases hx : tb (tmOf (tsOf (isTurn T) vops 0)) i with
    | false => rfl
    | true =>
      obtain ⟨_, o', h3, h4⟩ := tsOf_is (tmOf_tb.1 hx)
      rw [Nat.sub_zero, h1] at h3
      cases h3
      rw [h2] at h4; cases h4
  have vm0 : vops[m0]? = some { om with op := .call ⟨.builtin .print, ⟨flat2 (ins.map (·.2))⟩, #[]⟩ } := by
    rw [vget' m0 om hom]; unfold vop; rw [hself]; rfl
  have bvb : ∀ i, bAt vbs i = (match rbs[i]? with | some b => vbm m0 (lmOf m0 ins) (orI rbs m0 ins) i b | none => 0) := fun i => by
    unfold bAt
    rw [getL_eq, hvbs, mapI_get, Nat.zero_add, ← hins]
    cases rbs[i]? <;> rfl
  have brb : ∀ i, bAt rbs i = (match rbs[i]? with | some b => b | none => 0) := fun i => by
    unfold bAt
    rw [getL_eq]
    cases rbs[i]? <;> rfl
  refine ⟨⟨⟨om, hom, m1, m2, m3⟩, ⟨_, vm0, rfl, rfl, m2, m3⟩, fun q i k v hq => ?_, fun i hin => ?_, fun i h0 hni => ?_, fun q q' i k v k' v' h1 h2 => ?_, ?_, by rw [hvops]; exact mapI_len, fun i => ?_, fun i o ho => ?_, fun i j h0 hj => ?_, fun j hj => ?_, vtm m0 _ vm0 rfl, ?_⟩,
    stA_ok fun i o ho => (B i o ho).1, stB_ok fun i o ho => allI_ok0 c2 i o ho⟩
  · obtain ⟨o, t, m, h1, h2⟩ := ient q i k v hq
    have h0 := hne h1 h2
    have := (B i o h1).2.2
    unfold chkL at this
    rw [bf h0, h2] at this
    simp only [cond_false] at this
    cases k with
    | const c =>
      simp only at this
      split at this
      · rename_i d e1 e2
        obtain ⟨q1, this⟩ := cond_and this
        obtain ⟨q2, this⟩ := cond_and this
        obtain ⟨q3, q4⟩ := cond_and this
        have q1 := nbeq q1
        have q2 := nbeq q2
        subst q1 q2
        refine ⟨h0, q3, ⟨c, rfl⟩, fun t' j ev hw => ?_, o, h1, h2, e1, e2⟩
        subst ev
        simp only at q4
        obtain ⟨oj, w1, w2⟩ := hw
        have := allI_ok0 q4 j oj w1
        simp only [w2, hself, cond_true] at this
        obtain ⟨q5, q6⟩ := cond_and this
        refine ⟨q5, fun e => ?_⟩
        rw [e, hself] at q6; cases q6
      · cases this
    | _ => cases this
  · obtain ⟨q, k, v, hq⟩ := hin
    obtain ⟨o, t, m, h1, h2⟩ := ient q i k v hq
    have h0 := hne h1 h2
    have e : vops[i]? = some { o with op := .assign (.const (.bool true)) } := by
      rw [vget' i o h1]; unfold vop; rw [bf h0, h2]; rfl
    have hd : o.dst = none := by
      have := (B i o h1).2.2
      unfold chkL at this
      rw [bf h0, h2] at this
      simp only [cond_false] at this
      cases k with
      | const c =>
        simp only at this
        split at this
        · assumption
        · cases this
      | _ => cases this
    exact ⟨vtm i _ e rfl, _, e, rfl, hd⟩
  · rw [vget]
    cases ho : ops[i]? with
    | none => rfl
    | some o =>
      refine congrArg some ?_
      unfold vop
      rw [bf h0]
      simp only [cond_false]
      split
      · rename_i t m k v h2; exact absurd (iall ho h2) hni
      · rfl
  · rcases Nat.lt_trichotomy q q' with hlt | hlt | hlt
    · rw [hins] at h1 h2; have := insOf_lt h1 h2 hlt; omega
    · exact hlt
    · rw [hins] at h1 h2; have := insOf_lt h2 h1 hlt; omega
  · cases ins with
    | nil => cases c4
    | cons x r => exact ⟨x, rfl⟩
  · rw [vget]
    cases ho : ops[i]? with
    | none => rfl
    | some o =>
      show (vop m0 _ i o).dst = o.dst
      unfold vop
      cases Nat.beq i m0
      · simp only [cond_false]; split <;> rfl
      · rfl
  · have := (B i o ho).2.1
    unfold nlB at this
    split at this
    · cases this
    · assumption
  · rw [bvb] at hj
    rw [brb]
    cases hb : rbs[i]? with
    | none => rw [hb] at hj; simp only at hj; rw [tb_zero] at hj; cases hj
    | some b =>
      rw [hb] at hj
      simp only [vbm, bf h0, cond_false] at hj
      cases hs : sub (lmOf m0 ins) b with
      | true => rw [hs] at hj; exact ⟨hj, fun _ i' ⟨q, k, v, h1⟩ => sub_ok hs (lmOf_tb h1)⟩
      | false =>
        rw [hs] at hj
        simp only [cond_false] at hj
        rw [tb_del, Bool.and_eq_true] at hj
        exact ⟨hj.1, fun e => by rw [e] at hj; simp at hj⟩
  · rw [bvb] at hj
    cases hb : rbs[m0]? with
    | none => rw [hb] at hj; simp only at hj; rw [tb_zero] at hj; cases hj
    | some b =>
      rw [hb] at hj
      simp only [vbm, hself, cond_true] at hj
      rw [tb_del, Bool.and_eq_true] at hj
      exact ⟨fun e => by rw [e] at hj; simp at hj, orI_tb hj.1⟩
  · rw [mapL_eq] at c5; exact distB_ok c5
section
variable (T : Tab) (M : MTab) (cf : FuncId → Fn1)
noncomputable def drM (ops : List Oper) (rbs : List Nat) (mt dm : Nat) (ins : Ins) (env : Env) (h : H) (n : Id) (k : KC) : R :=
  fN (mkAt dm ops 0) fun m0 => fN (lmOf m0 ins) fun lm => fN (orI rbs m0 ins) fun or0 =>
  (fun vops vbs => fN (tmOf (tsOf (isTurn T) vops 0)) fun tm => cnd (chnT vbs (tsOf (isTurn T) vops 0)) (cnd (chkM ops vops rbs vbs tm (lenL env) mt dm m0 ins)
    (goD T M cf vops vbs tm (tsOf (isTurn T) vops 0) 0 0 0 (setL .j dm env) h n k) none) none) (mapI (vop m0 (flat2 (mapL (·.2) ins))) ops 0) (mapI (vbm m0 lm or0) rbs 0)
noncomputable def drL : DR := fun ops env h n k => bsK ops (fun rbs => match litHd ops with
  | some (mt, dm) => (match M mt with
    | some (_, _, 0, _) => drM T M cf ops rbs mt dm (insOf ops 0) env h n k
    | _ => none)
  | none => none) 0 []
noncomputable def hasIns (l : List Oper) : Bool := List.rec false (fun o _ ih => match o.op with | .insert _ _ _ _ => true | _ => ih) l
noncomputable def drF : DR := fun ops env h n k => cnd (hasIns ops) (drL T M cf ops env h n k) (drE T M cf ops env h n k)
end
theorem drL_ok {P : Program} {T : Tab} {M : MTab} {cf : FuncId → Fn1} (O : Ok P T M cf) {N : Nat} (hm : P.follows .mixedOrders = true) : DrOk P N (drL T M cf) := by
  intro id ops env h n k r hr
  unfold drL at hr
  obtain ⟨rbs, e⟩ := bsK_ok (ops := ops) (i := 0) (acc := []) (k := fun rbs => match litHd ops with
  | some (mt, dm) => (match M mt with
    | some (_, _, 0, _) => drM T M cf ops rbs mt dm (insOf ops 0) env h n k
    | _ => none)
  | none => none)
  rw [e] at hr
  split at hr <;> try cases hr
  rename_i mt dm _
  split at hr <;> try cases hr
  rename_i kt et g hmt
  unfold drM at hr
  simp only [fN_eq, lenL_eq, cnd_eq] at hr
  cases hc : chnT (mapI (vbm (mkAt dm ops 0) (lmOf (mkAt dm ops 0) (insOf ops 0)) (orI rbs (mkAt dm ops 0) (insOf ops 0))) rbs 0) (tsOf (isTurn T) (mapI (vop (mkAt dm ops 0) (flat2 (mapL (·.2) (insOf ops 0)))) ops 0) 0) with
  | false => rw [hc] at hr; cases hr
  | true =>
    rw [hc] at hr
    simp only [cond_true] at hr
    generalize hck : chkM _ _ _ _ _ _ _ _ _ _ = ck at hr
    cases ck with
    | false => cases hr
    | true =>
      simp only [cond_true] at hr
      obtain ⟨L, S2, S⟩ := lit_chk hck
      have hlen : (setL V.j dm env).length = env.length := by rw [setL_eq, List.length_set]
      have S' := S
      rw [← hlen] at S'
      obtain ⟨envF, hF, nF, Hb, He, sg, q1, A⟩ := goD_ok O S' hr
      refine ⟨envF, hF, nF, q1, fun F ι0 a w hx => ?_⟩
      have hx' : XRel N F ι0 (setL V.j dm env) h n a w := by
        obtain ⟨h1, h2, h3, ι, he, hb, hv⟩ := hx
        refine ⟨h1, h2, by rw [hlen]; exact h3, ι, he, hb, fun t => ?_⟩
        rw [rd_set]
        split
        · trivial
        · exact hv t
      have hdm : rd (setL V.j dm env) dm = .j := by
        rw [rd_set]
        split
        · rfl
        · rename_i hn
          unfold rd
          rw [getL_eq]
          have : ¬ dm < env.length := fun hl => hn ⟨rfl, hl⟩
          rw [List.getElem?_eq_none (Nat.le_of_not_lt this)]
      exact lit_run L S' S2 (fun j c c' h1 h2 => chnT_ok hc j c c' h1 h2) A (N := N) (by rw [hlen]; exact hx.2.2.1) O.mM hmt hdm hm F ι0 a w hx'
theorem drF_ok {P : Program} {T : Tab} {M : MTab} {cf : FuncId → Fn1} (O : Ok P T M cf) {N : Nat} (hm : P.follows .mixedOrders = true) : DrOk P N (drF T M cf) := by
  intro id ops env h n k r hr
  unfold drF at hr
  rw [cnd_eq] at hr
  cases hi : hasIns ops with
  | true => rw [hi] at hr; exact drL_ok O hm id ops env h n k r hr
  | false => rw [hi] at hr; exact drE_ok O hm id ops env h n k r hr
end Go.Proofs.Nw.X
end
section
/- XB: tables as trees; printed forms of functions. -/
open Go Go.RowKit
set_option linter.unusedVariables false
set_option linter.unusedSimpArgs false
namespace Go.Proofs.Nw.X
open Go.Proofs.Nw.K
universe u
inductive BT (β : Type u) where
  | e
  | n (k : Nat) (v : β) (l r : BT β)
section
variable {β : Type u}
noncomputable def BT.get (b : BT β) : Nat → Option β :=
  BT.rec (motive := fun _ => Nat → Option β) (fun _ => none) (fun k v _ _ il ir t => cond (Nat.blt t k) (il t) (cond (Nat.beq t k) (some v) (ir t))) b
def BT.toL : BT β → List (Nat × β)
  | .e => []
  | .n k v l r => l.toL ++ (k, v) :: r.toL
theorem BT.get_mem : ∀ {b : BT β} {t : Nat} {x : β}, b.get t = some x → (t, x) ∈ b.toL
  | .e, t, x, h => by cases h
  | .n k v l r, t, x, h => by
    have h : cond (Nat.blt t k) (l.get t) (cond (Nat.beq t k) (some v) (r.get t)) = some x := h
    unfold BT.toL
    cases c1 : Nat.blt t k <;> rw [c1] at h
    · cases c2 : Nat.beq t k <;> rw [c2] at h
      · exact List.mem_append.2 (.inr (List.mem_cons.2 (.inr (BT.get_mem h))))
      · have e := Nat.eq_of_beq_eq_true c2
        cases h
        subst e
        exact List.mem_append.2 (.inr (List.mem_cons.2 (.inl rfl)))
    · exact List.mem_append.2 (.inl (BT.get_mem h))
theorem BT.get_ok {p : Nat → β → Prop} {b : BT β} (h : ∀ x ∈ b.toL, p x.1 x.2) {t : Nat} {x : β} (hx : b.get t = some x) : p t x := h (t, x) (BT.get_mem hx)
theorem map_ok {f : Nat → Option β} {l : List (Nat × β)} (h : (l.map fun x => f x.1) = l.map fun x => some x.2) : ∀ x ∈ l, f x.1 = some x.2 := List.map_inj_left.1 h
theorem map_okB {f : Nat → Bool} {l : List (Nat × β)} (h : (l.map fun x => f x.1) = l.map fun _ => true) : ∀ x ∈ l, f x.1 = true := List.map_inj_left.1 h
end
noncomputable def tabT (ld : BT (Nat × Bool)) (fo : BT (List (Nat × Nat))) (el : BT (Nat × Nat)) (ap : BT (Nat × Nat × Nat)) (kd : BT TK) (zd : BT (List D)) (bt : BT (List (Nat × Nat))) (ss : BT Nat) (by_ : BT Nat) (cv : BT (List (Nat × (Nat × Nat)))) (ei : BT Unit) (pt : BT Unit) : Tab where
  ld := ld.get
  fo := fun t f => match fo.get t with | some r => lk r f | none => none
  el := el.get
  ap := ap.get
  kd := fun t => match kd.get t with | some k => k | none => .other
  zb := fun _ => none
  zd := zd.get
  bt := bt.get
  ss := ss.get
  cl := fun _ => false
  bb := by_.get
  cv := fun t f => match cv.get t with | some r => lk r f | none => none
  ei := fun f => match ei.get f with | some _ => true | none => false
  pt := fun f => match pt.get f with | some _ => true | none => false
theorem tabT_ok {P : Program} {ld : BT (Nat × Bool)} {fo : BT (List (Nat × Nat))} {el : BT (Nat × Nat)} {ap : BT (Nat × Nat × Nat)} {kd : BT TK} {zd : BT (List D)} {bt : BT (List (Nat × Nat))} {ss : BT Nat} {by_ : BT Nat} {cv : BT (List (Nat × (Nat × Nat)))} {ei : BT Unit} {pt : BT Unit}
    (h1 : ∀ x ∈ ld.toL, ldT P x.1 = some x.2) (h2 : (fo.toL.map fun x => x.2.map fun y => fieldOff P x.1 y.1) = fo.toL.map fun x => x.2.map fun y => some y.2) (h3 : ∀ x ∈ el.toL, elT P x.1 = some x.2) (h4 : ∀ x ∈ ap.toL, appT P x.1 = some x.2) (h5 : (kd.toL.map fun x => kdOf P x.1) = kd.toL.map fun x => x.2)
    (h7 : ∀ x ∈ zd.toL, zeroD P x.1 = some x.2) (h8 : ∀ x ∈ bt.toL, buildT P x.1 = some x.2) (h9 : ∀ x ∈ ss.toL, strStruct2 P x.1 = some x.2) (h12 : ∀ x ∈ by_.toL, byteT P x.1 = some x.2) (h13 : ∀ x ∈ cv.toL, ∀ y ∈ x.2, CvOk P x.1 y.1 y.2.1 y.2.2) (h14 : ∀ x ∈ ei.toL, IdFn P x.1)
    (h15 : ∀ x ∈ pt.toL, ptrT P x.1 = true) (hm : P.follows .mixedOrders = true) : TabOk P (tabT ld fo el ap kd zd bt ss by_ cv ei pt) := by
  have hk : ∀ t k, (tabT ld fo el ap kd zd bt ss by_ cv ei pt).kd t = k → k ≠ .other → kdOf P t = k := by
    intro t k h hne
    simp only [tabT] at h
    split at h
    · rename_i k' hk'
      subst h
      have h5 := List.map_inj_left.1 h5
      exact BT.get_ok (p := fun t k => kdOf P t = k) h5 hk'
    · exact absurd h.symm hne
  exact {
    ld := fun t x h => BT.get_ok (p := fun t x => ldT P t = some x) h1 h
    fo := fun t f x h => by
      simp only [tabT] at h
      split at h
      · rename_i r hr
        have h2 := List.map_inj_left.1 h2 (t, r) (BT.get_mem hr)
        have h2 : ∀ y ∈ r, fieldOff P t y.1 = some y.2 := List.map_inj_left.1 h2
        exact lk_all (p := fun f x => fieldOff P t f = some x) h2 f x h
      · cases h
    el := fun t x h => BT.get_ok (p := fun t x => elT P t = some x) h3 h
    ap := fun t x h => BT.get_ok (p := fun t x => appT P t = some x) h4 h
    kint := fun t k h => kdOf_int (hk t _ h (by intro e; cases e))
    kstr := fun t h => kdOf_str (hk t _ h (by intro e; cases e))
    kbool := fun t h => kdOf_bool (hk t _ h (by intro e; cases e))
    kslice := fun t e h => kdOf_slice (hk t _ h (by intro e; cases e))
    zb := fun t x h => by cases h
    zd := fun t x h => BT.get_ok (p := fun t x => zeroD P t = some x) h7 h
    bt := fun t x h => BT.get_ok (p := fun t x => buildT P t = some x) h8 h
    ss := fun t x h => BT.get_ok (p := fun t x => strStruct2 P t = some x) h9 h
    cl := fun f h => by cases h
    bb := fun t x h => BT.get_ok (p := fun t x => byteT P t = some x) h12 h
    cv := fun s d b n h => by
      simp only [tabT] at h
      split at h
      · rename_i r hr
        have := h13 (s, r) (BT.get_mem hr)
        exact lk_all (p := fun d (x : Nat × Nat) => CvOk P s d x.1 x.2) (l := r) (fun y hy => this y hy) d (b, n) h
      · cases h
    ei := fun f h => by
      simp only [tabT] at h
      split at h
      · rename_i r hr; exact h14 (f, r) (BT.get_mem hr)
      · cases h
    pt := fun t h => by
      simp only [tabT] at h
      split at h
      · rename_i r hr; exact h15 (t, r) (BT.get_mem hr)
      · cases h
    mixed := hm }
noncomputable abbrev fuX : Nat := 100000
abbrev CF := FuncId → Fn1
noncomputable def w0 (s : CF → H → Id → KV → R) : CF → Fn1 := fun cf vs h n k => List.casesOn (motive := fun _ => R) vs (s cf h n k) fun _ _ => none
noncomputable def w1 (s : CF → V → H → Id → KV → R) : CF → Fn1 := fun cf vs h n k => List.casesOn (motive := fun _ => R) vs none fun a r => w0 (fun cf => s cf a) cf r h n k
noncomputable def w2 (s : CF → V → V → H → Id → KV → R) : CF → Fn1 := fun cf vs h n k => List.casesOn (motive := fun _ => R) vs none fun a r => w1 (fun cf => s cf a) cf r h n k
noncomputable def w3 (s : CF → V → V → V → H → Id → KV → R) : CF → Fn1 := fun cf vs h n k => List.casesOn (motive := fun _ => R) vs none fun a r => w2 (fun cf => s cf a) cf r h n k
noncomputable def w4 (s : CF → V → V → V → V → H → Id → KV → R) : CF → Fn1 := fun cf vs h n k => List.casesOn (motive := fun _ => R) vs none fun a r => w3 (fun cf => s cf a) cf r h n k
noncomputable def w5 (s : CF → V → V → V → V → V → H → Id → KV → R) : CF → Fn1 := fun cf vs h n k => List.casesOn (motive := fun _ => R) vs none fun a r => w4 (fun cf => s cf a) cf r h n k
noncomputable def w6 (s : CF → V → V → V → V → V → V → H → Id → KV → R) : CF → Fn1 := fun cf vs h n k => List.casesOn (motive := fun _ => R) vs none fun a r => w5 (fun cf => s cf a) cf r h n k
theorem w0_ok {s : CF → H → Id → KV → R} {G : CF → Fn1} (H : ∀ cf h n k, G cf [] h n k = s cf h n k) : ∀ cf vs h n k r, w0 s cf vs h n k = some r → G cf vs h n k = some r
  | cf, [], h, n, k, r, hr => (H cf h n k).trans hr
  | cf, _ :: _, h, n, k, r, hr => by cases hr
theorem w1_ok {s : CF → V → H → Id → KV → R} {G : CF → Fn1} (H : ∀ cf a h n k, G cf [a] h n k = s cf a h n k) : ∀ cf vs h n k r, w1 s cf vs h n k = some r → G cf vs h n k = some r
  | cf, [], h, n, k, r, hr => by cases hr
  | cf, a :: vs, h, n, k, r, hr => w0_ok (G := fun cf vs => G cf (a :: vs)) (s := fun cf => s cf a) (fun cf => H cf a) cf vs h n k r hr
theorem w2_ok {s : CF → V → V → H → Id → KV → R} {G : CF → Fn1} (H : ∀ cf a b h n k, G cf [a, b] h n k = s cf a b h n k) : ∀ cf vs h n k r, w2 s cf vs h n k = some r → G cf vs h n k = some r
  | cf, [], h, n, k, r, hr => by cases hr
  | cf, a :: vs, h, n, k, r, hr => w1_ok (G := fun cf vs => G cf (a :: vs)) (s := fun cf => s cf a) (fun cf => H cf a) cf vs h n k r hr
theorem w3_ok {s : CF → V → V → V → H → Id → KV → R} {G : CF → Fn1} (H : ∀ cf a b c h n k, G cf [a, b, c] h n k = s cf a b c h n k) : ∀ cf vs h n k r, w3 s cf vs h n k = some r → G cf vs h n k = some r
  | cf, [], h, n, k, r, hr => by cases hr
  | cf, a :: vs, h, n, k, r, hr => w2_ok (G := fun cf vs => G cf (a :: vs)) (s := fun cf => s cf a) (fun cf => H cf a) cf vs h n k r hr
theorem w4_ok {s : CF → V → V → V → V → H → Id → KV → R} {G : CF → Fn1} (H : ∀ cf a b c d h n k, G cf [a, b, c, d] h n k = s cf a b c d h n k) : ∀ cf vs h n k r, w4 s cf vs h n k = some r → G cf vs h n k = some r
  | cf, [], h, n, k, r, hr => by cases hr
  | cf, a :: vs, h, n, k, r, hr => w3_ok (G := fun cf vs => G cf (a :: vs)) (s := fun cf => s cf a) (fun cf => H cf a) cf vs h n k r hr
theorem w5_ok {s : CF → V → V → V → V → V → H → Id → KV → R} {G : CF → Fn1} (H : ∀ cf a b c d e h n k, G cf [a, b, c, d, e] h n k = s cf a b c d e h n k) : ∀ cf vs h n k r, w5 s cf vs h n k = some r → G cf vs h n k = some r
  | cf, [], h, n, k, r, hr => by cases hr
  | cf, a :: vs, h, n, k, r, hr => w4_ok (G := fun cf vs => G cf (a :: vs)) (s := fun cf => s cf a) (fun cf => H cf a) cf vs h n k r hr
theorem w6_ok {s : CF → V → V → V → V → V → V → H → Id → KV → R} {G : CF → Fn1} (H : ∀ cf a b c d e f h n k, G cf [a, b, c, d, e, f] h n k = s cf a b c d e f h n k) : ∀ cf vs h n k r, w6 s cf vs h n k = some r → G cf vs h n k = some r
  | cf, [], h, n, k, r, hr => by cases hr
  | cf, a :: vs, h, n, k, r, hr => w5_ok (G := fun cf vs => G cf (a :: vs)) (s := fun cf => s cf a) (fun cf => H cf a) cf vs h n k r hr
def PfOk (P : Program) (T : Tab) (M : MTab) (f : FuncId) (s : CF → Fn1) : Prop := ∀ cf, (∀ f, Sd P f (cf f)) → Sd P f (s cf)
theorem pf_of {P : Program} {T : Tab} {M : MTab} (hT : TabOk P T) (h8 : u8T P T) (hM : MTabOk P M) (hF : FlOk P M) {f : FuncId} {e : FE} (he : FEOk P f e) {s : CF → Fn1} (H : ∀ cf vs h n k r, s cf vs h n k = some r → evFn T M (fun cf _ => drF T M cf) fuX cf e vs h n k = some r) : PfOk P T M f s :=
  fun cf hcf vs h n k r hr => evFn_ok hT h8 hM hF (fun cf hcf N => drF_ok ⟨hT, h8, hM, hF, hcf⟩ hT.mixed) hcf he vs h n k r (H cf vs h n k r hr)
theorem pf_ext {P : Program} {T : Tab} {M : MTab} {f : FuncId} {g : Fn1} (h : Sd P f g) : PfOk P T M f (fun _ => g) := fun _ _ => h
noncomputable def cfB (b : BT (CF → Fn1)) (d : Nat) : CF :=
  Nat.rec (motive := fun _ => CF) (fun _ _ _ _ _ => none) (fun _ ih f => Option.casesOn (motive := fun _ => Fn1) (b.get f) (fun _ _ _ _ => none) fun s => s ih) d
theorem cfB_ok {P : Program} {T : Tab} {M : MTab} {b : BT (CF → Fn1)} (H : ∀ x ∈ b.toL, PfOk P T M x.1 x.2) : ∀ d f, Sd P f (cfB b d f)
  | 0, f => fun vs h n k r hr => by cases hr
  | d + 1, f => by
    have e : cfB b (d + 1) f = Option.casesOn (motive := fun _ => Fn1) (b.get f) (fun _ _ _ _ => none) fun s => s (cfB b d) := rfl
    rw [e]
    cases hg : b.get f with
    | none => exact fun vs h n k r hr => by cases hr
    | some s => exact H (f, s) (BT.get_mem hg) (cfB b d) (cfB_ok H d)
end Go.Proofs.Nw.X
end
section
/- XE: functions without a body, and the library's by their contracts, as the evaluator's. -/
open Go Go.RowKit
set_option linter.unusedVariables false
set_option linter.unusedSimpArgs false
namespace Go.Proofs.Nw.X
open Go.Proofs.Nw.K
noncomputable def ixF (c l : Nat) : Nat → Nat → Option Nat :=
  Nat.rec (motive := fun _ => Nat → Nat → Option Nat) (fun _ _ => none) (fun m ih x i => cond (Nat.beq (x / 256 ^ m) c) (some i) (fN (x % 256 ^ m) fun x => fN (Nat.succ i) fun i => ih x i)) l
theorem valB_cons (b : UInt8) (l : List UInt8) : valB (b :: l) / 256 ^ l.length = b.toNat ∧ valB (b :: l) % 256 ^ l.length = valB l := by
  have h := valB_lt l
  have hp : 0 < 256 ^ l.length := Nat.pow_pos (by omega)
  simp only [valB]
  constructor
  · rw [Nat.mul_comm, Nat.mul_add_div hp, Nat.div_eq_of_lt h]; simp
  · rw [Nat.add_comm, Nat.add_mul_mod_self_right, Nat.mod_eq_of_lt h]
theorem ixF_cons (c : Nat) (b : UInt8) (l : List UInt8) (i : Nat) : ixF c (b :: l).length (valB (b :: l)) i = cond (Nat.beq b.toNat c) (some i) (ixF c l.length (valB l) (i + 1)) := by
  show cond (Nat.beq (valB (b :: l) / 256 ^ l.length) c) (some i) (fN (valB (b :: l) % 256 ^ l.length) fun x => fN (Nat.succ i) fun i => ixF c l.length x i) = _
  rw [(valB_cons b l).1, (valB_cons b l).2, fN_eq, fN_eq]
theorem beq_u8 (b c : UInt8) : Nat.beq b.toNat c.toNat = (b == c) := by
  rw [beq_eq]
  by_cases h : b = c
  · subst h; simp
  · have : ¬ b.toNat = c.toNat := fun e => h (UInt8.toNat_inj.1 e)
    simp [h, this]
theorem ixF_ok (c : UInt8) : ∀ (l : List UInt8) (i : Nat), (ixF c.toNat l.length (valB l) i = none ∧ Lib.indexByte l c = -1) ∨ ∃ j : Nat, ixF c.toNat l.length (valB l) i = some (i + j) ∧ Lib.indexByte l c = (j : Int)
  | [], i => .inl ⟨rfl, rfl⟩
  | b :: l, i => by
    rw [ixF_cons, beq_u8]
    unfold Lib.indexByte
    cases hb : (b == c) with
    | true => exact .inr ⟨0, rfl, rfl⟩
    | false =>
      rcases ixF_ok c l (i + 1) with ⟨h1, h2⟩ | ⟨j, h1, h2⟩
      · exact .inl ⟨h1, by rw [h2]; rfl⟩
      · refine .inr ⟨j + 1, by simp only [cond_false]; rw [h1]; congr 1; omega, ?_⟩
        have hne : ((j : Int) == -1) = false := by
          have : ¬ (j : Int) = -1 := by omega
          simp [this]
        rw [h2, hne]
        simp
theorem ixF_mem (c : UInt8) : ∀ (l : List UInt8) (i : Nat), (ixF c.toNat l.length (valB l) i = none ∧ l.contains c = false) ∨ ((∃ j, ixF c.toNat l.length (valB l) i = some j) ∧ l.contains c = true)
  | [], i => .inl ⟨rfl, rfl⟩
  | b :: l, i => by
    rw [ixF_cons, beq_u8, List.contains_cons]
    have e : (c == b) = (b == c) := by
      by_cases h : b = c
      · subst h; rfl
      · have h' : ¬ c = b := fun e => h e.symm
        rw [beq_eq_false_iff_ne.2 h, beq_eq_false_iff_ne.2 h']
    rw [e]
    cases hb : (b == c) with
    | true => exact .inr ⟨⟨i, rfl⟩, rfl⟩
    | false =>
      rcases ixF_mem c l (i + 1) with ⟨h1, h2⟩ | ⟨⟨j, h1⟩, h2⟩
      · exact .inl ⟨h1, by rw [h2]; rfl⟩
      · exact .inr ⟨⟨j, h1⟩, by rw [h2]; rfl⟩
noncomputable def iaF (lc xc l : Nat) : Nat → Nat → Option Nat :=
  Nat.rec (motive := fun _ => Nat → Nat → Option Nat) (fun _ _ => none) (fun m ih x i => fN (x / 256 ^ m) fun b => Option.casesOn (motive := fun _ => Option Nat) (ixF b lc xc 0) (fN (x % 256 ^ m) fun x => fN (Nat.succ i) fun i => ih x i) fun _ => some i) l
theorem iaF_cons (lc xc : Nat) (b : UInt8) (l : List UInt8) (i : Nat) : iaF lc xc (b :: l).length (valB (b :: l)) i = Option.casesOn (motive := fun _ => Option Nat) (ixF b.toNat lc xc 0) (iaF lc xc l.length (valB l) (i + 1)) fun _ => some i := by
  show (fN (valB (b :: l) / 256 ^ l.length) fun b' => Option.casesOn (motive := fun _ => Option Nat) (ixF b' lc xc 0) (fN (valB (b :: l) % 256 ^ l.length) fun x => fN (Nat.succ i) fun i => iaF lc xc l.length x i) fun _ => some i) = _
  rw [(valB_cons b l).1, (valB_cons b l).2, fN_eq, fN_eq, fN_eq]
theorem iaF_ok (cs : List UInt8) : ∀ (l : List UInt8) (i : Nat), (iaF cs.length (valB cs) l.length (valB l) i = none ∧ Lib.indexAny l cs = -1) ∨ ∃ j : Nat, iaF cs.length (valB cs) l.length (valB l) i = some (i + j) ∧ Lib.indexAny l cs = (j : Int)
  | [], i => .inl ⟨rfl, rfl⟩
  | b :: l, i => by
    rw [iaF_cons]
    unfold Lib.indexAny
    rcases ixF_mem b cs 0 with ⟨h1, h2⟩ | ⟨⟨j, h1⟩, h2⟩
    · rw [h1, h2]
      rcases iaF_ok cs l (i + 1) with ⟨h3, h4⟩ | ⟨j, h3, h4⟩
      · exact .inl ⟨h3, by rw [h4]; rfl⟩
      · refine .inr ⟨j + 1, by show iaF _ _ _ _ _ = _; rw [h3]; congr 1; omega, ?_⟩
        have hne : ((j : Int) == -1) = false := by
          have : ¬ (j : Int) = -1 := by omega
          simp [this]
        rw [h4, hne]
        simp
    · rw [h1, h2]
      exact .inr ⟨0, rfl, rfl⟩
noncomputable def ascF (l : Nat) : Nat → Bool := Nat.rec (motive := fun _ => Nat → Bool) (fun _ => true) (fun m ih x => cond (Nat.blt (x / 256 ^ m) 128) (fN (x % 256 ^ m) ih) false) l
theorem ascF_ok : ∀ (l : List UInt8), ascF l.length (valB l) = true → ∀ (j : Nat) b, l[j]? = some b → b.toNat < 128
  | [], _, j, b, h => by simp at h
  | c :: l, ha, j, b, h => by
    have ha : cond (Nat.blt (valB (c :: l) / 256 ^ l.length) 128) (fN (valB (c :: l) % 256 ^ l.length) (ascF l.length)) false = true := ha
    rw [(valB_cons c l).1, (valB_cons c l).2, fN_eq, blt_eq] at ha
    by_cases hc : c.toNat < 128
    · simp only [hc, decide_true, cond_true] at ha
      cases j with
      | zero => simp at h; subst h; exact hc
      | succ j => exact ascF_ok l ha j b (by simpa using h)
    · simp only [hc, decide_false, cond_false] at ha; cases ha
noncomputable def isF (ls xs l : Nat) : Nat → Nat → Option Nat :=
  Nat.rec (motive := fun _ => Nat → Nat → Option Nat) (fun _ i => cond (Nat.beq ls 0) (some i) none)
    (fun m ih x i => cond (Nat.ble ls (Nat.succ m)) (cond (Nat.beq (x / 256 ^ (Nat.succ m - ls)) xs) (some i) (fN (x % 256 ^ m) fun x => fN (Nat.succ i) fun i => ih x i)) none) l
theorem pre_iff (sub s : List UInt8) : sub.isPrefixOf s = (Nat.ble sub.length s.length && Nat.beq (valB s / 256 ^ (s.length - sub.length)) (valB sub)) := by
  rw [ble_eq, beq_eq, Bool.eq_iff_iff, List.isPrefixOf_iff_prefix, Bool.and_eq_true, decide_eq_true_iff, decide_eq_true_iff]
  constructor
  · rintro ⟨t, rfl⟩
    refine ⟨by simp, ?_⟩
    have hp : 0 < 256 ^ t.length := Nat.pow_pos (by omega)
    have h := valB_lt t
    rw [valB_app, List.length_append, Nat.add_sub_cancel_left, Nat.mul_comm, Nat.mul_add_div hp, Nat.div_eq_of_lt h]
    simp
  · rintro ⟨h1, h2⟩
    have hp : 0 < 256 ^ (s.drop sub.length).length := Nat.pow_pos (by omega)
    have h := valB_lt (s.drop sub.length)
    have e : s = s.take sub.length ++ s.drop sub.length := (List.take_append_drop _ _).symm
    have h3 : valB s / 256 ^ (s.length - sub.length) = valB (s.take sub.length) := by
      conv => lhs; rw [e]
      rw [valB_app, ← e, ← List.length_drop, Nat.mul_comm, Nat.mul_add_div hp, Nat.div_eq_of_lt h]
      simp
    have h4 : s.take sub.length = sub := valB_inj (by simp; omega) (h3.symm.trans h2)
    exact ⟨s.drop sub.length, (congrArg (· ++ s.drop sub.length) h4.symm).trans e.symm⟩
theorem isF_ok (sub : List UInt8) : ∀ (l : List UInt8) (i : Nat), (isF sub.length (valB sub) l.length (valB l) i = none ∧ Lib.index l sub = -1) ∨ ∃ j : Nat, isF sub.length (valB sub) l.length (valB l) i = some (i + j) ∧ Lib.index l sub = (j : Int)
  | [], i => by
    unfold Lib.index
    cases sub with
    | nil => exact .inr ⟨0, rfl, rfl⟩
    | cons b m => exact .inl ⟨rfl, rfl⟩
  | b :: l, i => by
    have e : isF sub.length (valB sub) (b :: l).length (valB (b :: l)) i = cond (Nat.ble sub.length (b :: l).length) (cond (Nat.beq (valB (b :: l) / 256 ^ ((b :: l).length - sub.length)) (valB sub)) (some i) (isF sub.length (valB sub) l.length (valB l) (i + 1))) none := by
      show cond (Nat.ble sub.length (b :: l).length) (cond (Nat.beq (valB (b :: l) / 256 ^ ((b :: l).length - sub.length)) (valB sub)) (some i) (fN (valB (b :: l) % 256 ^ l.length) fun x => fN (Nat.succ i) fun i => isF sub.length (valB sub) l.length x i)) none = _
      rw [(valB_cons b l).2, fN_eq, fN_eq]
    rw [e]
    unfold Lib.index
    rw [pre_iff]
    have hlong : ∀ (l : List UInt8), l.length < sub.length → Lib.index l sub = -1 := by
      intro l
      induction l with
      | nil => intro h; unfold Lib.index; cases sub with | nil => cases h | cons _ _ => rfl
      | cons c l ih =>
        intro h
        unfold Lib.index
        have hx : (Nat.ble sub.length (c :: l).length) = false := by rw [ble_eq]; simp only [decide_eq_false_iff_not]; omega
        rw [pre_iff, hx, ih (by simp only [List.length_cons] at h; omega)]
        rfl
    cases h1 : Nat.ble sub.length (b :: l).length with
    | false =>
      have h1' : ¬ sub.length ≤ (b :: l).length := by rw [ble_eq] at h1; exact of_decide_eq_false h1
      refine .inl ⟨rfl, ?_⟩
      rw [hlong l (by simp only [List.length_cons] at h1'; omega)]
      rfl
    | true =>
      simp only [cond_true, Bool.true_and]
      cases h2 : Nat.beq (valB (b :: l) / 256 ^ ((b :: l).length - sub.length)) (valB sub) with
      | true => exact .inr ⟨0, rfl, rfl⟩
      | false =>
        simp only [cond_false]
        rcases isF_ok sub l (i + 1) with ⟨h3, h4⟩ | ⟨j, h3, h4⟩
        · exact .inl ⟨h3, by rw [h4]; rfl⟩
        · refine .inr ⟨j + 1, by rw [h3]; congr 1; omega, ?_⟩
          have hne : ((j : Int) == -1) = false := by
            have : ¬ (j : Int) = -1 := by omega
            simp [this]
          rw [h4, hne]
          simp
noncomputable def gSi : Fn1 := fun vs h n k => match vs with
  | [.s l x, .s ls xs] => cond (Nat.ble l 1048576) (match isF ls xs l x 0 with | some i => fN i fun i => k (.i .i64 (.ofNat i)) h n | none => k (.i .i64 (.negSucc 0)) h n) none
  | _ => none
noncomputable def gId : Fn1 := fun vs h n k => match vs with | [v] => k v h n | _ => none
noncomputable def gIx : Fn1 := fun vs h n k => match vs with
  | [.s l x, .i .u8 (.ofNat c)] => cond (Nat.blt c 256) (match ixF c l x 0 with | some i => fN i fun i => k (.i .i64 (.ofNat i)) h n | none => k (.i .i64 (.negSucc 0)) h n) none
  | _ => none
noncomputable def gMkz (e : TypeId) : Fn1 := fun vs h n k => match vs with
  | [.i .i64 (.ofNat m)] => cond (Nat.ble m 16777216) (match nxt n with | some n' => k (.sl n 1 0 m) (hset (.bs (Nat.succ e) 0 0 0) n h) n' | none => none) none
  | _ => none
noncomputable def gIa : Fn1 := fun vs h n k => match vs with
  | [.s l x, .s lc xc] => cond (Nat.ble l 1048576) (cond (Nat.ble lc 1048576) (cond (ascF l x) (cond (ascF lc xc) (match iaF lc xc l x 0 with | some i => fN i fun i => k (.i .i64 (.ofNat i)) h n | none => k (.i .i64 (.negSucc 0)) h n) none) none) none) none
  | _ => none
section
variable {P : Program} {f : FuncId}
theorem sd_id (hf : IdFn P f) : Sd P f gId := by
  intro vs h n k r hr
  unfold gId at hr
  split at hr
  · rename_i v
    refine ⟨v, h, n, hr, fun F ι w us hb hus => ?_⟩
    obtain ⟨u, r', rfl, h1, h2⟩ := hus
    have h2 : r' = [] := h2
    subst h2
    rw [show [u].toArray = #[u] from rfl, hf u w]
    exact ⟨ι, Ext.refl _, hb, h1⟩
  · cases hr
theorem sd_ix (hf : ∀ (s : ByteArray) (c : Int) (w : World), (callFunc f #[.string s, .int .u8 c]).run P w = .ok (.value (.int .i64 (Lib.indexByte s.data.toList c.toNat.toUInt8))) w) : Sd P f gIx := by
  intro vs h n k r hr
  unfold gIx at hr
  split at hr
  · rename_i l x c
    rw [blt_eq] at hr
    by_cases hc : c < 256
    case neg => simp only [hc, decide_false, cond_false] at hr; cases hr
    simp only [hc, decide_true, cond_true] at hr
    have run : ∀ (F : Fx) (ι : Io) (w : World) (us : List Value), RVs ι [V.s l x, .i .u8 (.ofNat c)] us → ∃ s : ByteArray, SRep l x s ∧ (callFunc f us.toArray).run P w = .ok (.value (.int .i64 (Lib.indexByte s.data.toList (UInt8.ofNat c)))) w := fun F ι w us hus => by
      obtain ⟨u, r1, rfl, ⟨s, hs1, hs2⟩, u2, r2, rfl, h4, h5⟩ := hus
      have h5 : r2 = [] := h5
      have h4 : u2 = .int .u8 (c : Int) := h4
      subst h5 h4 hs1
      exact ⟨s, hs2, by rw [show [Value.string s, .int .u8 (c : Int)].toArray = #[.string s, .int .u8 (c : Int)] from rfl, hf]; simp⟩
    have hcn : (UInt8.ofNat c).toNat = c := by simp; omega
    cases hi : ixF c l x 0 with
    | some i =>
      rw [hi] at hr
      simp only [fN_eq] at hr
      refine ⟨_, h, n, hr, fun F ι w us hb hus => ?_⟩
      obtain ⟨s, hs, hrun⟩ := run F ι w us hus
      rw [hrun]
      refine ⟨ι, Ext.refl _, hb, ?_⟩
      rcases ixF_ok (UInt8.ofNat c) s.data.toList 0 with ⟨h1, h2⟩ | ⟨j, h1, h2⟩
      · rw [hcn, hs.1, hs.2, hi] at h1; cases h1
      · rw [hcn, hs.1, hs.2, hi] at h1
        have : i = j := by have := Option.some.inj h1; omega
        subst this
        rw [h2]; rfl
    | none =>
      rw [hi] at hr
      refine ⟨_, h, n, hr, fun F ι w us hb hus => ?_⟩
      obtain ⟨s, hs, hrun⟩ := run F ι w us hus
      rw [hrun]
      refine ⟨ι, Ext.refl _, hb, ?_⟩
      rcases ixF_ok (UInt8.ofNat c) s.data.toList 0 with ⟨h1, h2⟩ | ⟨j, h1, h2⟩
      · rw [h2]; rfl
      · rw [hcn, hs.1, hs.2, hi] at h1; cases h1
  · cases hr
theorem sd_mkz {e : TypeId} (hf : ∀ (m : Nat) (w : World), m ≤ 281474976710656 → ∃ cs : Array Value, (callFunc f #[.int .i64 m]).run P w = .ok (.value (.slice (some ⟨w.heap.size, 0, none⟩) m cs.size)) (w.drew.drew.alloc (.cells cs e)) ∧ m ≤ cs.size ∧ (m ≤ maxLen → cs.size ≤ maxLen)) : Sd P f (gMkz e) := by
  intro vs h n k r hr
  unfold gMkz at hr
  split at hr
  · rename_i m
    rw [ble_eq] at hr
    by_cases hc : m ≤ 16777216
    case neg => simp only [hc, decide_false, cond_false] at hr; cases hr
    simp only [hc, decide_true, cond_true] at hr
    split at hr
    · rename_i n' hn
      refine ⟨_, _, _, hr, fun F ι w us hb hus => ?_⟩
      obtain ⟨u, r1, rfl, h4, h5⟩ := hus
      have h5 : r1 = [] := h5
      have h4 : u = .int .i64 (m : Int) := h4
      subst h5 h4
      obtain ⟨cs, g1, g2, g3⟩ := hf m w (by omega)
      rw [show [Value.int .i64 (m : Int)].toArray = #[.int .i64 (m : Int)] from rfl, g1]
      have hg : w.grownBy (w.drew.drew.alloc (.cells cs e)) none := ⟨rfl, rfl, rfl, by show w.heap.size ≤ (w.heap.push _).size; simp, fun k hk _ => by
        have := Below.heap_alloc w.drew.drew (.cells cs e) k hk
        exact this⟩
      have hm := g3 (by simp only [maxLen]; omega)
      refine ⟨_, hb.ext ⟨w.heap.size, 0, cs.size⟩, hb.alloc hn hg (by show w.drawn ≤ w.drawn + 1 + 1; omega) _ _ rfl (by show w.heap.size < (w.heap.push _).size; simp) ⟨cs, e, (0, 0), [], heap_alloc_new w.drew.drew _, rfl, by simp, rfl, rfl, fun i b hib => (by simp at hib), fun off _ _ => (by simp), fun _ => ⟨rfl, rfl, rfl⟩⟩,
        ⟨w.heap.size, 0, cs.size⟩, cs.size, upI_same _ _ _, g2, hm, ?_⟩
      by_cases h0 : 0 < cs.size
      · exact .inl ⟨h0, by simp, by simp⟩
      · exact .inr ⟨by omega, ⟨w.heap.size, 0, none⟩, by rw [show cs.size = 0 by omega, show m = 0 by omega]⟩
    · cases hr
  · cases hr
theorem sd_ia (hcall : callable P f = true) (hf : ∀ (s chars : ByteArray) (w : World), s.size < 4294967281 → chars.size < 4294967281 → (∀ (j : Nat) b, s.data.toList[j]? = some b → b.toNat < 128) → (∀ (j : Nat) b, chars.data.toList[j]? = some b → b.toNat < 128) →
    Calls P f #[.string s, .string chars] w fun e w' => e = .returned (.int .i64 (Lib.indexAny s.data.toList chars.data.toList)) ∧ Below w.heap.size w w') : Sd P f gIa := by
  intro vs h n k r hr
  unfold gIa at hr
  split at hr
  · rename_i l x lc xc
    rw [ble_eq, ble_eq] at hr
    by_cases c1 : l ≤ 1048576
    case neg => simp only [c1, decide_false, cond_false] at hr; cases hr
    by_cases c2 : lc ≤ 1048576
    case neg => simp only [c1, c2, decide_true, decide_false, cond_true, cond_false] at hr; cases hr
    simp only [c1, c2, decide_true, cond_true] at hr
    cases c3 : ascF l x <;> rw [c3] at hr <;> try cases hr
    cases c4 : ascF lc xc <;> rw [c4] at hr <;> try cases hr
    simp only [cond_true] at hr
    have run : ∀ (F : Fx) (ι : Io) (w : World) (us : List Value), HR F ι h n w → RVs ι [V.s l x, .s lc xc] us → ∃ s chars : ByteArray, SRep l x s ∧ SRep lc xc chars ∧ us = [.string s, .string chars] ∧
        (callFunc f us.toArray).run P w = .ok (.enter f us.toArray) w ∧ Calls P f us.toArray w fun e w' => e = .returned (.int .i64 (Lib.indexAny s.data.toList chars.data.toList)) ∧ HR F ι h n w' := fun F ι w us hb hus => by
      obtain ⟨u, r1, rfl, ⟨s, hs1, hs2⟩, u2, r2, rfl, ⟨s', hs3, hs4⟩, h5⟩ := hus
      have h5 : r2 = [] := h5
      subst h5 hs1 hs3
      refine ⟨s, s', hs2, hs4, rfl, callFunc_run hcall _ w, Calls.mono (hf s s' w (by rw [hs2.size]; omega) (by rw [hs4.size]; omega) (ascF_ok _ (by rw [hs2.1, hs2.2]; exact c3)) (ascF_ok _ (by rw [hs4.1, hs4.2]; exact c4))) fun e w' he => ⟨he.1, hb.grown0 ⟨he.2.os, he.2.tape, he.2.output, he.2.size, fun k hk _ => he.2.block k hk⟩⟩⟩
    cases hi : iaF lc xc l x 0 with
    | some i =>
      rw [hi] at hr
      simp only [fN_eq] at hr
      refine ⟨_, h, n, hr, fun F ι w us hb hus => ?_⟩
      obtain ⟨s, cs, hs, hcs, rfl, hrun, hcl⟩ := run F ι w us hb hus
      rw [hrun]
      refine Calls.mono hcl fun e w' he => ?_
      refine ⟨_, he.1, ι, Ext.refl _, he.2, ?_⟩
      rcases iaF_ok cs.data.toList s.data.toList 0 with ⟨h1, h2⟩ | ⟨j, h1, h2⟩
      · rw [hs.1, hs.2, hcs.1, hcs.2, hi] at h1; cases h1
      · rw [hs.1, hs.2, hcs.1, hcs.2, hi] at h1
        have : i = j := by have := Option.some.inj h1; omega
        subst this
        rw [h2]; rfl
    | none =>
      rw [hi] at hr
      refine ⟨_, h, n, hr, fun F ι w us hb hus => ?_⟩
      obtain ⟨s, cs, hs, hcs, rfl, hrun, hcl⟩ := run F ι w us hb hus
      rw [hrun]
      refine Calls.mono hcl fun e w' he => ?_
      refine ⟨_, he.1, ι, Ext.refl _, he.2, ?_⟩
      rcases iaF_ok cs.data.toList s.data.toList 0 with ⟨h1, h2⟩ | ⟨j, h1, h2⟩
      · rw [h2]; rfl
      · rw [hs.1, hs.2, hcs.1, hcs.2, hi] at h1; cases h1
  · cases hr
theorem sd_si (hcall : callable P f = true) (hf : ∀ (s sub : ByteArray) (m : Int) (w : World), s.size < 4294967281 → w.cell? ⟨0, 0, none⟩ = some (.int .i64 m) →
    Calls P f #[.string s, .string sub] w fun e w' => e = .returned (.int .i64 (Lib.index s.data.toList sub.data.toList)) ∧ w' = w) : Sd P f gSi := by
  intro vs h n k r hr
  unfold gSi at hr
  split at hr
  · rename_i l x lc xc
    rw [ble_eq] at hr
    by_cases c1 : l ≤ 1048576
    case neg => simp only [c1, decide_false, cond_false] at hr; cases hr
    simp only [c1, decide_true, cond_true] at hr
    have run : ∀ (F : Fx) (ι : Io) (w : World) (us : List Value), HR F ι h n w → RVs ι [V.s l x, .s lc xc] us → ∃ s chars : ByteArray, SRep l x s ∧ SRep lc xc chars ∧ us = [.string s, .string chars] ∧
        (callFunc f us.toArray).run P w = .ok (.enter f us.toArray) w ∧ Calls P f us.toArray w fun e w' => e = .returned (.int .i64 (Lib.index s.data.toList chars.data.toList)) ∧ HR F ι h n w' := fun F ι w us hb hus => by
      obtain ⟨u, r1, rfl, ⟨s, hs1, hs2⟩, u2, r2, rfl, ⟨s', hs3, hs4⟩, h5⟩ := hus
      have h5 : r2 = [] := h5
      subst h5 hs1 hs3
      obtain ⟨m, hm⟩ := hb.below.gi
      exact ⟨s, s', hs2, hs4, rfl, callFunc_run hcall _ w, Calls.mono (hf s s' m w (by rw [hs2.size]; omega) hm) fun e w' he => ⟨he.1, by rw [he.2]; exact hb⟩⟩
    cases hi : isF lc xc l x 0 with
    | some i =>
      rw [hi] at hr
      simp only [fN_eq] at hr
      refine ⟨_, h, n, hr, fun F ι w us hb hus => ?_⟩
      obtain ⟨s, cs, hs, hcs, rfl, hrun, hcl⟩ := run F ι w us hb hus
      rw [hrun]
      refine Calls.mono hcl fun e w' he => ?_
      refine ⟨_, he.1, ι, Ext.refl _, he.2, ?_⟩
      rcases isF_ok cs.data.toList s.data.toList 0 with ⟨h1, h2⟩ | ⟨j, h1, h2⟩
      · rw [hs.1, hs.2, hcs.1, hcs.2, hi] at h1; cases h1
      · rw [hs.1, hs.2, hcs.1, hcs.2, hi] at h1
        have : i = j := by have := Option.some.inj h1; omega
        subst this
        rw [h2]; rfl
    | none =>
      rw [hi] at hr
      refine ⟨_, h, n, hr, fun F ι w us hb hus => ?_⟩
      obtain ⟨s, cs, hs, hcs, rfl, hrun, hcl⟩ := run F ι w us hb hus
      rw [hrun]
      refine Calls.mono hcl fun e w' he => ?_
      refine ⟨_, he.1, ι, Ext.refl _, he.2, ?_⟩
      rcases isF_ok cs.data.toList s.data.toList 0 with ⟨h1, h2⟩ | ⟨j, h1, h2⟩
      · rw [h2]; rfl
      · rw [hs.1, hs.2, hcs.1, hcs.2, hi] at h1; cases h1
  · cases hr
end
end Go.Proofs.Nw.X
end
