/- Bundle 4: NwE1, NwO1, NwSort1, NwS1, NwB4, NwTab, NwB1, NwB2. -/
import Derived.Test.YtjfpnnmagnljnaaNwA3
import Derived.Test.YtjfpnnmagnljnaaProg
import Derived.Shelf.SlLaysF0
import Derived.Shelf.SlGeneric
import Derived.Ground.SlsfProg
import Derived.Lib.Join
import Derived.Laws.Closers25
import Derived.Shelf.Strings.Builder1
import Derived.Sort.Grow
section
/- E1: the program's data, as Lean types. -/
open Go Go.RowKit
set_option linter.unusedVariables false
namespace Go.Proofs.Nw.K

abbrev Str := ByteArray
structure Excluded where
  group : Str
  name : Str
structure Dep where
  group : Str
  name : Str
  version : Str
  type : Str
  classifier : Str
  scope : Str
  optional : Bool
  excluded : List Excluded
structure Coord where
  group : Str
  name : Str
  version : Str
structure Pair where
  name : Str
  value : Str
structure Pom where
  parent : Coord
  group : Str
  name : Str
  version : Str
  packaging : Str
  props : List Pair
  managed : List Dep
  deps : List Dep
structure Item where
  coord : Coord
  text : Str
structure Found where
  parent : Int
  index : Int
  dep : Dep
  kind : Int
structure Resolved where
  root : Coord
  nodes : List Found

abbrev dstr (s : Str) : D := .sc (.string s)
abbrev dint (n : Int) : D := .sc (.int .i64 n)
abbrev dbool (b : Bool) : D := .sc (.bool b)
def emp : Str := ⟨#[]⟩
def encExcluded (x : Excluded) : List D := [dstr x.group, dstr x.name]
def zExcluded : Excluded := ⟨emp, emp⟩
abbrev dExcludeds (l : List Excluded) : D := .tl Excluded 2 encExcluded zExcluded l
def encDep (d : Dep) : List D := [dstr d.group, dstr d.name, dstr d.version, dstr d.type, dstr d.classifier, dstr d.scope, dbool d.optional, dExcludeds d.excluded]
def zDep : Dep := ⟨emp, emp, emp, emp, emp, emp, false, []⟩
abbrev dDeps (l : List Dep) : D := .tl Dep 8 encDep zDep l
def encCoord (c : Coord) : List D := [dstr c.group, dstr c.name, dstr c.version]
def zCoord : Coord := ⟨emp, emp, emp⟩
def encPair (c : Pair) : List D := [dstr c.name, dstr c.value]
def zPair : Pair := ⟨emp, emp⟩
abbrev dPairs (l : List Pair) : D := .tl Pair 2 encPair zPair l
def encPom (p : Pom) : List D := [dstr p.parent.group, dstr p.parent.name, dstr p.parent.version, dstr p.group, dstr p.name, dstr p.version, dstr p.packaging, dPairs p.props, dDeps p.managed, dDeps p.deps]
def zPom : Pom := ⟨zCoord, emp, emp, emp, emp, [], [], []⟩
abbrev dPoms (l : List Pom) : D := .tl Pom 10 encPom zPom l
def encItem (i : Item) : List D := [dstr i.coord.group, dstr i.coord.name, dstr i.coord.version, dstr i.text]
def zItem : Item := ⟨zCoord, emp⟩
abbrev dItems (l : List Item) : D := .tl Item 4 encItem zItem l
def encFound (f : Found) : List D := [dint f.parent, dint f.index, dstr f.dep.group, dstr f.dep.name, dstr f.dep.version, dstr f.dep.type, dstr f.dep.classifier, dstr f.dep.scope, dbool f.dep.optional, dExcludeds f.dep.excluded, dint f.kind]
def zFound : Found := ⟨0, 0, zDep, 0⟩
abbrev dFounds (l : List Found) : D := .tl Found 11 encFound zFound l
def encResolved (r : Resolved) : List D := [dstr r.root.group, dstr r.root.name, dstr r.root.version, dFounds r.nodes]
abbrev encStr (s : Str) : List D := [dstr s]
abbrev dStrs (l : List Str) : D := .tl Str 1 encStr emp l
abbrev encInt (n : Int) : List D := [dint n]
abbrev dInts (l : List Int) : D := .tl Int 1 encInt 0 l

def isInt (n : Int) : Prop := -9223372036854775808 ≤ n ∧ n ≤ 9223372036854775807

/- weights: as a reading counts them, or less -/
def Excluded.wt (x : Excluded) : Nat := x.group.size + x.name.size + 3
def Dep.wt (d : Dep) : Nat := d.group.size + d.name.size + d.version.size + d.type.size + d.classifier.size + d.scope.size + (d.excluded.map Excluded.wt).sum + 9
def Coord.wt (c : Coord) : Nat := c.group.size + c.name.size + c.version.size + 4
def Pair.wt (c : Pair) : Nat := c.name.size + c.value.size + 3
def Pom.wt (p : Pom) : Nat := p.parent.wt + p.group.size + p.name.size + p.version.size + p.packaging.size + (p.props.map Pair.wt).sum + (p.managed.map Dep.wt).sum + (p.deps.map Dep.wt).sum + 8
def Item.wt (i : Item) : Nat := i.coord.wt + i.text.size + 2
def Found.wt (f : Found) : Nat := f.dep.wt + 4
def Resolved.wt (r : Resolved) : Nat := r.root.wt + (r.nodes.map Found.wt).sum + 2

def Found.Ok (f : Found) : Prop := isInt f.parent ∧ isInt f.index ∧ isInt f.kind
def Resolved.Ok (r : Resolved) : Prop := ∀ f ∈ r.nodes, f.Ok

theorem isInt_of {n : Int} (h : (Lit.int .i64 n).wf = true) : isInt n := by
  have h' : IntKind.min .i64 ≤ n ∧ n ≤ IntKind.max .i64 := by simpa [Lit.wf] using h
  simpa [isInt, IntKind.min, IntKind.max, IntKind.signed, IntKind.bits] using h'

end Go.Proofs.Nw.K
end
section
/- What a reading of the program's types holds. -/
open Go Go.RowKit
set_option linter.unusedVariables false
set_option maxRecDepth 100000
namespace Go.Proofs.Nw.K
open Go.Proofs
theorem open_str : Opens Try.prog 9 (fun s : Str => [dstr s]) (fun s => s.size + 1) (fun s => s.size ≤ maxLen) := opens_string Try.underlying9
theorem open_bool : Opens Try.prog 4 (fun b : Bool => [dbool b]) (fun _ => 1) (fun _ => True) := opens_bool Try.underlying4
theorem open_int : Opens Try.prog 3 (fun n : Int => [dint n]) (fun _ => 1) (fun n => isInt n) := Opens.map (opens_int Try.underlying3) (fun n => n) (fun _ => rfl) (fun _ => Nat.le_refl _) (fun _ h => isInt_of h)
theorem open_strs : Opens Try.prog 40 (fun xs : List Str => [.tl Str 1 encStr emp xs]) (fun xs => (xs.map (fun s => s.size + 1)).sum + 1) (fun xs => xs.length ≤ maxLen ∧ ∀ s ∈ xs, s.size ≤ maxLen) := opens_slice emp Try.underlying40 (by kernel_rfl) (by decide) open_str
theorem open_ints : Opens Try.prog 39 (fun xs : List Int => [.tl Int 1 encInt (0 : Int) xs]) (fun xs => (xs.map (fun _ => 1)).sum + 1) (fun xs => xs.length ≤ maxLen ∧ ∀ s ∈ xs, isInt s) := opens_slice (0 : Int) Try.underlying39 (by kernel_rfl) (by decide) open_int
theorem open_Excluded : Opens Try.prog 72 encExcluded Excluded.wt (fun _ => True) := (opens_struct Try.underlying72 (by kernel_rfl) (opensF_cons (k := 1) rfl (by kernel_rfl) open_str (opensF_cons (k := 1) rfl (by kernel_rfl) open_str opensF_nil))).map (fun a => ⟨a.1, a.2.1⟩) (fun a => rfl) (fun a => by simp only [Excluded.wt]; omega) (fun _ _ => trivial)
theorem open_Excludeds : Opens Try.prog 33 (fun xs : List Excluded => [.tl Excluded 2 encExcluded zExcluded xs]) (fun xs => (xs.map (Excluded.wt)).sum + 1) (fun xs => xs.length ≤ maxLen ∧ ∀ s ∈ xs, True) := opens_slice zExcluded Try.underlying33 (by kernel_rfl) (by decide) open_Excluded
theorem open_Dep : Opens Try.prog 35 encDep Dep.wt (fun _ => True) := (opens_struct Try.underlying35 (by kernel_rfl) (opensF_cons (k := 1) rfl (by kernel_rfl) open_str (opensF_cons (k := 1) rfl (by kernel_rfl) open_str (opensF_cons (k := 1) rfl (by kernel_rfl) open_str (opensF_cons (k := 1) rfl (by kernel_rfl) open_str (opensF_cons (k := 1) rfl (by kernel_rfl) open_str (opensF_cons (k := 1) rfl (by kernel_rfl) open_str (opensF_cons (k := 1) rfl (by kernel_rfl) open_bool (opensF_cons (k := 1) rfl (by kernel_rfl) open_Excludeds opensF_nil))))))))).map (fun a => ⟨a.1, a.2.1, a.2.2.1, a.2.2.2.1, a.2.2.2.2.1, a.2.2.2.2.2.1, a.2.2.2.2.2.2.1, a.2.2.2.2.2.2.2.1⟩) (fun a => rfl) (fun a => by simp only [Dep.wt]; omega) (fun _ _ => trivial)
theorem open_Deps : Opens Try.prog 27 (fun xs : List Dep => [.tl Dep 8 encDep zDep xs]) (fun xs => (xs.map (Dep.wt)).sum + 1) (fun xs => xs.length ≤ maxLen ∧ ∀ s ∈ xs, True) := opens_slice zDep Try.underlying27 (by kernel_rfl) (by decide) open_Dep
theorem open_Coord : Opens Try.prog 23 encCoord Coord.wt (fun _ => True) := (opens_struct Try.underlying23 (by kernel_rfl) (opensF_cons (k := 1) rfl (by kernel_rfl) open_str (opensF_cons (k := 1) rfl (by kernel_rfl) open_str (opensF_cons (k := 1) rfl (by kernel_rfl) open_str opensF_nil)))).map (fun a => ⟨a.1, a.2.1, a.2.2.1⟩) (fun a => rfl) (fun a => by simp only [Coord.wt]; omega) (fun _ _ => trivial)
theorem open_Pair : Opens Try.prog 66 encPair Pair.wt (fun _ => True) := (opens_struct Try.underlying66 (by kernel_rfl) (opensF_cons (k := 1) rfl (by kernel_rfl) open_str (opensF_cons (k := 1) rfl (by kernel_rfl) open_str opensF_nil))).map (fun a => ⟨a.1, a.2.1⟩) (fun a => rfl) (fun a => by simp only [Pair.wt]; omega) (fun _ _ => trivial)
theorem open_Pairs : Opens Try.prog 53 (fun xs : List Pair => [.tl Pair 2 encPair zPair xs]) (fun xs => (xs.map (Pair.wt)).sum + 1) (fun xs => xs.length ≤ maxLen ∧ ∀ s ∈ xs, True) := opens_slice zPair Try.underlying53 (by kernel_rfl) (by decide) open_Pair
theorem open_Pom : Opens Try.prog 55 encPom Pom.wt (fun _ => True) := (opens_struct Try.underlying55 (by kernel_rfl) (opensF_cons (k := 3) rfl (by kernel_rfl) open_Coord (opensF_cons (k := 1) rfl (by kernel_rfl) open_str (opensF_cons (k := 1) rfl (by kernel_rfl) open_str (opensF_cons (k := 1) rfl (by kernel_rfl) open_str (opensF_cons (k := 1) rfl (by kernel_rfl) open_str (opensF_cons (k := 1) rfl (by kernel_rfl) open_Pairs (opensF_cons (k := 1) rfl (by kernel_rfl) open_Deps (opensF_cons (k := 1) rfl (by kernel_rfl) open_Deps opensF_nil))))))))).map (fun a => ⟨a.1, a.2.1, a.2.2.1, a.2.2.2.1, a.2.2.2.2.1, a.2.2.2.2.2.1, a.2.2.2.2.2.2.1, a.2.2.2.2.2.2.2.1⟩) (fun a => rfl) (fun a => by simp only [Pom.wt]; omega) (fun _ _ => trivial)
theorem open_Poms : Opens Try.prog 51 (fun xs : List Pom => [.tl Pom 10 encPom zPom xs]) (fun xs => (xs.map (Pom.wt)).sum + 1) (fun xs => xs.length ≤ maxLen ∧ ∀ s ∈ xs, True) := opens_slice zPom Try.underlying51 (by kernel_rfl) (by decide) open_Pom
theorem open_Found : Opens Try.prog 45 encFound Found.wt (fun f => f.Ok) := (opens_struct Try.underlying45 (by kernel_rfl) (opensF_cons (k := 1) rfl (by kernel_rfl) open_int (opensF_cons (k := 1) rfl (by kernel_rfl) open_int (opensF_cons (k := 8) rfl (by kernel_rfl) open_Dep (opensF_cons (k := 1) rfl (by kernel_rfl) open_int opensF_nil))))).map (fun a => ⟨a.1, a.2.1, a.2.2.1, a.2.2.2.1⟩) (fun a => rfl) (fun a => by simp only [Found.wt]; omega) (fun a h => ⟨h.1, h.2.1, h.2.2.2.1⟩)
theorem open_Founds : Opens Try.prog 24 (fun xs : List Found => [.tl Found 11 encFound zFound xs]) (fun xs => (xs.map (Found.wt)).sum + 1) (fun xs => xs.length ≤ maxLen ∧ ∀ s ∈ xs, s.Ok) := opens_slice zFound Try.underlying24 (by kernel_rfl) (by decide) open_Found
theorem open_Resolved : Opens Try.prog 26 encResolved Resolved.wt (fun f => f.Ok) := (opens_struct Try.underlying26 (by kernel_rfl) (opensF_cons (k := 3) rfl (by kernel_rfl) open_Coord (opensF_cons (k := 1) rfl (by kernel_rfl) open_Founds opensF_nil))).map (fun a => ⟨a.1, a.2.1⟩) (fun a => rfl) (fun a => by simp only [Resolved.wt]; omega) (fun a h => h.2.1.2)
end Go.Proofs.Nw.K
end
section
/-
  DERIVED: THE SHELF's CONTRACTS AT THIS DUMP, IN PLAIN WORDS (tools/lay-plain.mjs out of 'NwSort0.lean', which tools/lay-shelf.mjs wrote): THE SAME DECLARATIONS UNDER THE SAME NAMES: 'import', 'namespace', 'open', 'def', 'theorem' AND NOTHING ELSE: no command of the shelf's: FOR A HAND-IN. Each laying: the table of numbers ('.._ren') and one theorem, a field a fact of the dump's own or the kernel's comparison; each contract: ONE APPLICATION.
-/
namespace Go.Proofs
open Go.Shelf
def Try.sortProp_ren : Go.Shelf.Ren := ⟨fun | 6 => 73 | 15 => 89 | 14 => 88 | 28 => 102 | 29 => 103 | 20 => 94 | 21 => 95 | 22 => 96 | 23 => 97 | 24 => 98 | 25 => 99 | 26 => 100 | 27 => 101 | 46 => 104 | 47 => 105 | 48 => 106 | 49 => 107 | 50 => 108 | 57 => 109 | n => n, fun | 22 => 53 | 24 => 66 | 25 => 115 | 3 => 3 | 39 => 41 | 0 => 0 | 53 => 122 | 55 => 125 | 4 => 4 | 46 => 133 | 45 => 132 | 50 => 137 | 5 => 5 | 9 => 9 | 66 => 141 | 70 => 145 | 76 => 147 | 77 => 148 | n => n, fun | n => n⟩
theorem Try.sortProp : Go.Proofs.SlLaysF0.n6 Try.prog Try.sortProp_ren := {
  mixed := by kernel_rfl
  f6 := ⟨Try.f73.name, by decide, Try.func73.trans (congrArg some (by kernel_rfl))⟩
  f14 := ⟨Try.f88.name, by decide, Try.func88.trans (congrArg some (by kernel_rfl))⟩
  f15 := Try.func89.trans (congrArg some (by kernel_rfl))
  f20 := ⟨Try.f94.name, by decide, Try.func94.trans (congrArg some (by kernel_rfl))⟩
  f21 := ⟨Try.f95.name, by decide, Try.func95.trans (congrArg some (by kernel_rfl))⟩
  f22 := ⟨Try.f96.name, by decide, Try.func96.trans (congrArg some (by kernel_rfl))⟩
  f23 := ⟨Try.f97.name, by decide, Try.func97.trans (congrArg some (by kernel_rfl))⟩
  f24 := ⟨Try.f98.name, by decide, Try.func98.trans (congrArg some (by kernel_rfl))⟩
  f25 := ⟨Try.f99.name, by decide, Try.func99.trans (congrArg some (by kernel_rfl))⟩
  f26 := ⟨Try.f100.name, by decide, Try.func100.trans (congrArg some (by kernel_rfl))⟩
  f27 := ⟨Try.f101.name, by decide, Try.func101.trans (congrArg some (by kernel_rfl))⟩
  f28 := Try.func102.trans (congrArg some (by kernel_rfl))
  f29 := Try.func103.trans (congrArg some (by kernel_rfl))
  f46 := ⟨Try.f104.name, by decide, Try.func104.trans (congrArg some (by kernel_rfl))⟩
  f47 := Try.func105.trans (congrArg some (by kernel_rfl))
  f48 := Try.func106.trans (congrArg some (by kernel_rfl))
  f49 := ⟨Try.f107.name, by decide, Try.func107.trans (congrArg some (by kernel_rfl))⟩
  f50 := ⟨Try.f108.name, by decide, Try.func108.trans (congrArg some (by kernel_rfl))⟩
  f57 := ⟨Try.f109.name, by decide, Try.func109.trans (congrArg some (by kernel_rfl))⟩
  t0 := Try.underlying0
  a0 := Try.isAgg0
  z0 := Try.sizeOf0
  v0 := Try.zeroValue0
  t3 := Try.underlying3
  a3 := Try.isAgg3
  z3 := Try.sizeOf3
  v3 := Try.zeroValue3
  t4 := Try.underlying4
  a4 := Try.isAgg4
  z4 := Try.sizeOf4
  v4 := Try.zeroValue4
  t5 := Try.underlying5
  a5 := Try.isAgg5
  z5 := Try.sizeOf5
  v5 := Try.zeroValue5
  t9 := Try.underlying9
  a9 := Try.isAgg9
  z9 := Try.sizeOf9
  v9 := Try.zeroValue9
  t22 := Try.underlying53
  a22 := Try.isAgg53
  z22 := Try.sizeOf53
  v22 := Try.zeroValue53
  t25 := Try.underlying115
  a25 := Try.isAgg115
  z25 := Try.sizeOf115
  v25 := Try.zeroValue115
  t39 := Try.underlying41
  a39 := Try.isAgg41
  z39 := Try.sizeOf41
  v39 := Try.zeroValue41
  t45 := Try.underlying132
  a45 := Try.isAgg132
  z45 := Try.sizeOf132
  v45 := Try.zeroValue132
  t46 := Try.underlying133
  a46 := Try.isAgg133
  z46 := Try.sizeOf133
  v46 := Try.zeroValue133
  t50 := Try.underlying137
  a50 := Try.isAgg137
  z50 := Try.sizeOf137
  v50 := Try.zeroValue137
  t53 := Try.underlying122
  a53 := Try.isAgg122
  z53 := Try.sizeOf122
  v53 := Try.zeroValue122
  t55 := Try.underlying125
  a55 := Try.isAgg125
  z55 := Try.sizeOf125
  v55 := Try.zeroValue125
  t66 := Try.underlying141
  a66 := Try.isAgg141
  z66 := Try.sizeOf141
  v66 := Try.zeroValue141
  t70 := Try.underlying145
  a70 := Try.isAgg145
  z70 := Try.sizeOf145
  v70 := Try.zeroValue145
  t76 := Try.underlying147
  a76 := Try.isAgg147
  z76 := Try.sizeOf147
  v76 := Try.zeroValue147
  t77 := Try.underlying148
  a77 := Try.isAgg148
  z77 := Try.sizeOf148
  v77 := Try.zeroValue148 }
end Go.Proofs
end
section
/- S1: strings, as values. -/
open Go
set_option linter.unusedVariables false
set_option linter.unusedSimpArgs false
namespace Go.Proofs.Nw.K

theorem str_ext {a b : Str} (h : a.data.toList = b.data.toList) : a = b := by
  cases a; cases b; simp at h; subst h; rfl
theorem toList_inj {a b : Str} : a.toList = b.toList ↔ a = b := by
  rw [ByteArray.toList_eq, ByteArray.toList_eq]
  exact ⟨str_ext, fun h => by rw [h]⟩
theorem str_beq (a b : Str) : (a.toList == b.toList) = decide (a = b) := by
  by_cases h : a = b
  · subst h; simp
  · have : ¬ a.toList = b.toList := fun e => h (toList_inj.1 e)
    simp [h, this]
theorem str_app (a b : Str) : (a ++ b).data.toList = a.data.toList ++ b.data.toList := by simp
theorem str_size (a : Str) : a.size = a.data.toList.length := by simp only [Array.length_toList]; rfl
theorem app_assoc (a b c : Str) : a ++ b ++ c = a ++ (b ++ c) := str_ext (by simp)
theorem emp_app (a : Str) : emp ++ a = a := str_ext (by rw [str_app]; rfl)
theorem app_emp (a : Str) : a ++ emp = a := str_ext (by rw [str_app]; show a.data.toList ++ [] = _; simp)
theorem app_size (a b : Str) : (a ++ b).size = a.size + b.size := by simp
theorem sz_lit (a : Array UInt8) : (ByteArray.mk a).size = a.size := rfl
theorem app_inj_left {a b c : Str} : a ++ b = a ++ c ↔ b = c :=
  ⟨fun h => str_ext (by have := congrArg (fun s : Str => s.data.toList) h; simpa using this), fun h => by rw [h]⟩

def orOf : List Str → Str
  | [] => emp
  | s :: r => if s.toList == emp.toList then orOf r else s

def joinOf (l : List Str) (sep : Str) : Str := ⟨(Lib.join (l.map (·.data.toList)) sep.data.toList).toArray⟩
theorem join_cons (x y : Str) (l : List Str) (sep : Str) : joinOf (x :: y :: l) sep = x ++ sep ++ joinOf (y :: l) sep := by
  apply str_ext
  simp only [joinOf, str_app, Lib.join, List.map_cons]
  simp [List.intercalate]
theorem join_one (x : Str) (sep : Str) : joinOf [x] sep = x := by
  apply str_ext
  simp [joinOf, Lib.join_one]

def jar : Str := ⟨#[106, 97, 114]⟩
def colon : Str := ⟨#[58]⟩
def nl : Str := ⟨#[10]⟩
def tyOf (d : Dep) : Str := if d.type.toList == emp.toList then jar else d.type
def keyOf (d : Dep) : Str := d.group ++ colon ++ d.name ++ colon ++ tyOf d ++ colon ++ d.classifier
def lineOf (d : Dep) : Str :=
  (if d.classifier.toList == emp.toList then d.group ++ colon ++ d.name ++ colon ++ tyOf d else d.group ++ colon ++ d.name ++ colon ++ tyOf d ++ colon ++ d.classifier) ++ colon ++ d.version ++ colon ++ d.scope
def linesOf : List Dep → Str
  | [] => emp
  | d :: r => lineOf d ++ nl ++ linesOf r

theorem linesOf_append (a b : List Dep) : linesOf (a ++ b) = linesOf a ++ linesOf b := by
  induction a with
  | nil => simp [linesOf, emp_app]
  | cons d r ih => simp [linesOf, ih, app_assoc]

theorem tyOf_size (d : Dep) : (tyOf d).size ≤ d.type.size + 3 := by
  unfold tyOf; split
  · show 3 ≤ _; omega
  · omega
theorem lineOf_size (d : Dep) : (lineOf d).size ≤ d.wt + 3 := by
  have h := tyOf_size d
  have hc : colon.size = 1 := rfl
  unfold lineOf Dep.wt
  split <;> (simp only [app_size, hc]; omega)
theorem linesOf_size (l : List Dep) : (linesOf l).size ≤ (l.map Dep.wt).sum + 4 * l.length := by
  induction l with
  | nil => show 0 ≤ _; omega
  | cons d r ih =>
    have h := lineOf_size d
    have hn : nl.size = 1 := rfl
    simp only [linesOf, app_size, List.map_cons, List.sum_cons, List.length_cons, hn]
    omega
theorem wt_pos (d : Dep) : 9 ≤ d.wt := by unfold Dep.wt; omega
theorem len_le_wt (l : List Dep) : 9 * l.length ≤ (l.map Dep.wt).sum := by
  induction l with
  | nil => simp
  | cons d r ih => have := wt_pos d; simp; omega
end Go.Proofs.Nw.K
end
section
/- B4: what slices.SortFunc is handed by inherit.props, walked. -/
set_option linter.unusedVariables false
set_option linter.unusedSimpArgs false
namespace Go.Proofs.Nw.K
open Go Go.Proofs Go.Shelf Go.Lib Go.Sort Go.RowKit

def strCmp (a b : ByteArray) : Int := if Op.bytesLess a.toList b.toList then -1 else if Op.bytesLess a.toList b.toList || a.toList == b.toList then 0 else 1

theorem isNaN90 (x : ByteArray) (W : World) : Calls Try.prog 90 #[.string x] W fun e w' => e = .returned (.bool false) ∧ w' = W := by
  go_enter Try.func90, Try.ntmps90
  go_wp2
  go_ret
  exact ⟨by simp, rfl⟩

set_option maxHeartbeats 1000000 in
theorem Compare75 (x y : ByteArray) (W : World) : Calls Try.prog 75 #[.string x, .string y] W fun e w' => e = .returned (.int .i64 (strCmp x y)) ∧ w' = W := by
  have hg : ∀ W, (binOp BinOp.gtr 9 (.string x) (.string y)).run Try.prog W = .ok (.bool (!(Op.bytesLess x.toList y.toList || x.toList == y.toList))) W := fun W => by
    simp [binOp, Op.stringOp]
  go_enter Try.func75, Try.ntmps75
  go_wp2_with (go_at_call 90; refine (isNaN90 _ _).mono ?_; rintro e w' ⟨rfl, hw⟩; rw [hw])
  all_goals (refine ⟨rfl, _, results_tmp (t := 4) rfl _ _ _, ?_, rfl⟩)
  all_goals simp [strCmp, *]
  all_goals simp_all

set_option maxHeartbeats 1000000 in
theorem closure74 (a b c d : ByteArray) (W : World) : Calls Try.prog 74 #[.agg #[.string a, .string b], .agg #[.string c, .string d]] W fun e w' => e = .returned (.int .i64 (strCmp a c)) ∧ ∃ q os', w' = grow (W.drewN q) os' := by
  have hcon := fun W' => Compare75 a c W'
  generalize strCmp a c = r at hcon ⊢
  go_enter Try.func74, Try.ntmps74
  go_wp2_with (go_at_call 75; refine (hcon _).mono ?_; rintro e w' ⟨rfl, rfl⟩)
  refine ⟨rfl, _, results_tmp (t := 4) rfl _ _ _, rfl, 0, #[.cells #[.string a, .string b] 66, .cells #[.string c, .string d] 66], ?_⟩
  rw [alloc_eq_grow, alloc_eq_grow, grow_grow]; rfl
end Go.Proofs.Nw.K
end
section
/- The tables of the program's types, and that they are the program's own. -/
open Go Go.RowKit
set_option linter.unusedVariables false
set_option maxRecDepth 100000
namespace Go.Proofs.Nw.K
open Go.Proofs
def tb_ld : List (Nat × (Nat × Bool)) := [(0, (1, false)), (1, (1, false)), (2, (1, false)), (3, (1, false)), (4, (1, false)), (5, (1, false)), (6, (1, false)), (7, (4, true)), (8, (4, true)), (9, (1, false)), (10, (1, false)), (11, (1, false)), (12, (1, false)), (13, (2, true)), (14, (2, true)), (15, (1, false)), (16, (1, false)), (17, (1, false)), (18, (1, true)), (19, (1, true)), (20, (1, false)), (21, (1, false)), (22, (3, true)), (23, (3, true)), (24, (1, false)), (25, (4, true)), (26, (4, true)), (27, (1, false)), (28, (1, false)), (29, (1, false)), (30, (1, false)), (31, (1, false)), (32, (1, false)), (33, (1, false)), (34, (8, true)), (35, (8, true)), (36, (1, false)), (37, (1, false)), (38, (1, false)), (39, (1, false)), (40, (1, false)), (41, (1, false)), (42, (1, false)), (43, (1, false)), (44, (11, true)), (45, (11, true)), (46, (1, false)), (47, (1, false)), (48, (1, false)), (49, (1, false)), (50, (1, false)), (51, (1, false)), (52, (1, false)), (53, (1, false)), (54, (10, true)), (55, (10, true)), (56, (1, false)), (57, (1, false)), (58, (1, false)), (59, (1, false)), (60, (1, false)), (61, (1, false)), (62, (1, false)), (63, (1, false)), (64, (1, false)), (65, (2, true)), (66, (2, true)), (67, (1, false)), (68, (1, false)), (69, (1, false)), (70, (1, false)), (71, (2, true)), (72, (2, true)), (73, (1, false)), (74, (1, false)), (75, (1, false)), (76, (2, true)), (77, (2, true)), (78, (1, false)), (79, (1, false)), (80, (1, false)), (81, (1, false)), (82, (1, false)), (83, (1, false)), (84, (1, false)), (85, (1, false)), (86, (1, false)), (87, (2, true)), (88, (2, true)), (89, (1, false)), (90, (1, false)), (91, (1, false)), (92, (1, false)), (93, (1, false)), (94, (1, false)), (95, (1, false)), (96, (1, false)), (97, (1, false)), (98, (1, false)), (99, (1, false)), (100, (1, false)), (101, (1, false)), (102, (1, false)), (103, (1, false)), (104, (1, false)), (105, (1, false)), (106, (1, false)), (107, (1, false)), (108, (1, false)), (109, (1, false)), (110, (1, false)), (111, (1, false)), (112, (1, false)), (113, (1, false)), (114, (1, false)), (115, (1, false)), (116, (1, false)), (117, (1, false)), (118, (1, false)), (119, (1, false)), (120, (1, false)), (121, (1, false)), (122, (1, false)), (123, (1, false)), (124, (1, false)), (125, (1, false)), (126, (1, false)), (127, (1, false)), (128, (1, false)), (129, (1, false)), (130, (1, false)), (131, (1, false)), (132, (1, false)), (133, (1, false)), (134, (1, false)), (135, (1, false)), (136, (1, false)), (137, (1, false)), (138, (1, false)), (139, (1, false)), (140, (1, false)), (141, (1, false)), (142, (1, false)), (143, (1, false)), (144, (1, false)), (145, (1, false)), (146, (1, false)), (147, (1, false)), (148, (1, false)), (149, (1, false)), (150, (4, true)), (151, (4, true)), (152, (0, true)), (153, (0, true)), (154, (0, true)), (155, (1, false)), (156, (1, false)), (157, (1, false)), (158, (1, false)), (159, (1, false)), (160, (11, true)), (161, (11, true))]
def tb_fo : List (Nat × (List (Nat × Nat))) := [(7, [(0, 0), (1, 1), (2, 2), (3, 3)]), (8, [(0, 0), (1, 1), (2, 2), (3, 3)]), (13, [(0, 0), (1, 1)]), (14, [(0, 0), (1, 1)]), (18, [(0, 0)]), (19, [(0, 0)]), (22, [(0, 0), (1, 1), (2, 2)]), (23, [(0, 0), (1, 1), (2, 2)]), (25, [(0, 0), (1, 3)]), (26, [(0, 0), (1, 3)]), (34, [(0, 0), (1, 1), (2, 2), (3, 3), (4, 4), (5, 5), (6, 6), (7, 7)]), (35, [(0, 0), (1, 1), (2, 2), (3, 3), (4, 4), (5, 5), (6, 6), (7, 7)]), (44, [(0, 0), (1, 1), (2, 2), (3, 10)]), (45, [(0, 0), (1, 1), (2, 2), (3, 10)]), (54, [(0, 0), (1, 3), (2, 4), (3, 5), (4, 6), (5, 7), (6, 8), (7, 9)]), (55, [(0, 0), (1, 3), (2, 4), (3, 5), (4, 6), (5, 7), (6, 8), (7, 9)]), (65, [(0, 0), (1, 1)]), (66, [(0, 0), (1, 1)]), (71, [(0, 0), (1, 1)]), (72, [(0, 0), (1, 1)]), (76, [(0, 0), (1, 1)]), (77, [(0, 0), (1, 1)]), (87, [(0, 0), (1, 1)]), (88, [(0, 0), (1, 1)]), (150, [(0, 0), (1, 1), (2, 2), (3, 3)]), (151, [(0, 0), (1, 1), (2, 2), (3, 3)]), (160, [(0, 0), (1, 1), (2, 2), (3, 3), (4, 4), (5, 5), (6, 6), (7, 7), (8, 8), (9, 9), (10, 10)]), (161, [(0, 0), (1, 1), (2, 2), (3, 3), (4, 4), (5, 5), (6, 6), (7, 7), (8, 8), (9, 9), (10, 10)])]
def tb_el : List (Nat × (Nat × Nat)) := [(24, (45, 11)), (27, (35, 8)), (33, (72, 2)), (39, (3, 1)), (40, (9, 1)), (51, (55, 10)), (53, (66, 2)), (75, (5, 1)), (85, (88, 2))]
def tb_ap : List (Nat × (Nat × Nat × Nat)) := [(24, (45, 11, 152)), (27, (35, 8, 128)), (33, (72, 2, 32)), (39, (3, 1, 8)), (40, (9, 1, 16)), (51, (55, 10, 184)), (53, (66, 2, 32)), (75, (5, 1, 1)), (85, (88, 2, 16))]
def tb_kd : List (Nat × (TK)) := [(2, .int .i64), (3, .int .i64), (4, .bool), (5, .int .u8), (6, .int .u8), (9, .str), (10, .str), (11, .str), (12, .int .u64), (21, .int .i32), (24, .slice 45), (27, .slice 35), (29, .int .i64), (33, .slice 72), (39, .slice 3), (40, .slice 9), (41, .int .u64), (51, .slice 55), (53, .slice 66), (75, .slice 5), (85, .slice 88), (122, .int .u32), (125, .int .u64), (132, .int .i64), (141, .int .u64), (155, .int .u8), (156, .int .u8), (158, .int .i32), (159, .int .i32)]
def tb_zb : List (Nat × (List AV)) := [(1, [.d (.sc .nilFunc)]), (2, [.d (.sc (.int .i64 (0)))]), (3, [.d (.sc (.int .i64 (0)))]), (4, [.d (.sc (.bool false))]), (5, [.d (.sc (.int .u8 (0)))]), (6, [.d (.sc (.int .u8 (0)))]), (7, [.d (.sc (.int .i64 (0))), .d (.sc (.int .i64 (0))), .d (.sc (.bool false)), .d (.sc (.int .u8 (0)))]), (8, [.d (.sc (.int .i64 (0))), .d (.sc (.int .i64 (0))), .d (.sc (.bool false)), .d (.sc (.int .u8 (0)))]), (9, [.d (.sc (.string ⟨#[]⟩))]), (10, [.d (.sc (.string ⟨#[]⟩))]), (11, [.d (.sc (.string ⟨#[]⟩))]), (12, [.d (.sc (.int .u64 (0)))]), (13, [.d (.sc (.string ⟨#[]⟩)), .d (.sc (.int .u64 (0)))]), (14, [.d (.sc (.string ⟨#[]⟩)), .d (.sc (.int .u64 (0)))]), (15, [.d (.sc (.pointer none))]), (16, [.d (.sc (.pointer none))]), (17, [.d (.sc (.pointer none))]), (18, [.d (.sc (.pointer none))]), (19, [.d (.sc (.pointer none))]), (20, [.d (.sc .nilIface)]), (21, [.d (.sc (.int .i32 (0)))]), (22, [.d (.sc (.string ⟨#[]⟩)), .d (.sc (.string ⟨#[]⟩)), .d (.sc (.string ⟨#[]⟩))]), (23, [.d (.sc (.string ⟨#[]⟩)), .d (.sc (.string ⟨#[]⟩)), .d (.sc (.string ⟨#[]⟩))]), (24, [.d (.nils)]), (25, [.d (.sc (.string ⟨#[]⟩)), .d (.sc (.string ⟨#[]⟩)), .d (.sc (.string ⟨#[]⟩)), .d (.nils)]), (26, [.d (.sc (.string ⟨#[]⟩)), .d (.sc (.string ⟨#[]⟩)), .d (.sc (.string ⟨#[]⟩)), .d (.nils)]), (27, [.d (.nils)]), (28, [.d (.sc .nilFunc)]), (29, [.d (.sc (.int .i64 (0)))]), (31, [.d (.sc .nilFunc)]), (32, [.d (.sc .nilFunc)]), (33, [.d (.nils)]), (34, [.d (.sc (.string ⟨#[]⟩)), .d (.sc (.string ⟨#[]⟩)), .d (.sc (.string ⟨#[]⟩)), .d (.sc (.string ⟨#[]⟩)), .d (.sc (.string ⟨#[]⟩)), .d (.sc (.string ⟨#[]⟩)), .d (.sc (.bool false)), .d (.nils)]), (35, [.d (.sc (.string ⟨#[]⟩)), .d (.sc (.string ⟨#[]⟩)), .d (.sc (.string ⟨#[]⟩)), .d (.sc (.string ⟨#[]⟩)), .d (.sc (.string ⟨#[]⟩)), .d (.sc (.string ⟨#[]⟩)), .d (.sc (.bool false)), .d (.nils)]), (36, [.d (.sc .nilFunc)]), (37, [.d (.sc .nilFunc)]), (38, [.d (.sc .nilFunc)]), (39, [.d (.nils)]), (40, [.d (.nils)]), (41, [.d (.sc (.int .u64 (0)))]), (42, [.d (.sc .nilFunc)]), (43, [.d (.sc .nilFunc)]), (44, [.d (.sc (.int .i64 (0))), .d (.sc (.int .i64 (0))), .d (.sc (.string ⟨#[]⟩)), .d (.sc (.string ⟨#[]⟩)), .d (.sc (.string ⟨#[]⟩)), .d (.sc (.string ⟨#[]⟩)), .d (.sc (.string ⟨#[]⟩)), .d (.sc (.string ⟨#[]⟩)), .d (.sc (.bool false)), .d (.nils), .d (.sc (.int .i64 (0)))]), (45, [.d (.sc (.int .i64 (0))), .d (.sc (.int .i64 (0))), .d (.sc (.string ⟨#[]⟩)), .d (.sc (.string ⟨#[]⟩)), .d (.sc (.string ⟨#[]⟩)), .d (.sc (.string ⟨#[]⟩)), .d (.sc (.string ⟨#[]⟩)), .d (.sc (.string ⟨#[]⟩)), .d (.sc (.bool false)), .d (.nils), .d (.sc (.int .i64 (0)))]), (46, [.d (.sc .nilFunc)]), (47, [.d (.sc .nilFunc)]), (48, [.d (.sc .nilFunc)]), (49, [.d (.sc .nilFunc)]), (50, [.d (.sc .nilFunc)]), (51, [.d (.nils)]), (52, [.d (.sc .nilFunc)]), (53, [.d (.nils)]), (54, [.d (.sc (.string ⟨#[]⟩)), .d (.sc (.string ⟨#[]⟩)), .d (.sc (.string ⟨#[]⟩)), .d (.sc (.string ⟨#[]⟩)), .d (.sc (.string ⟨#[]⟩)), .d (.sc (.string ⟨#[]⟩)), .d (.sc (.string ⟨#[]⟩)), .d (.nils), .d (.nils), .d (.nils)]), (55, [.d (.sc (.string ⟨#[]⟩)), .d (.sc (.string ⟨#[]⟩)), .d (.sc (.string ⟨#[]⟩)), .d (.sc (.string ⟨#[]⟩)), .d (.sc (.string ⟨#[]⟩)), .d (.sc (.string ⟨#[]⟩)), .d (.sc (.string ⟨#[]⟩)), .d (.nils), .d (.nils), .d (.nils)]), (57, [.d (.sc .nilFunc)]), (58, [.d (.sc .nilFunc)]), (59, [.d (.sc .nilFunc)]), (60, [.d (.sc .nilFunc)]), (61, [.d (.sc .nilFunc)]), (62, [.d (.sc .nilFunc)]), (63, [.d (.sc .nilFunc)]), (64, [.d (.sc .nilFunc)]), (65, [.d (.sc (.string ⟨#[]⟩)), .d (.sc (.string ⟨#[]⟩))]), (66, [.d (.sc (.string ⟨#[]⟩)), .d (.sc (.string ⟨#[]⟩))]), (67, [.d (.sc .nilFunc)]), (68, [.d (.sc .nilFunc)]), (69, [.d (.sc .nilFunc)]), (70, [.d (.sc .nilFunc)]), (71, [.d (.sc (.string ⟨#[]⟩)), .d (.sc (.string ⟨#[]⟩))]), (72, [.d (.sc (.string ⟨#[]⟩)), .d (.sc (.string ⟨#[]⟩))]), (73, [.d (.sc .nilFunc)]), (74, [.d (.sc (.pointer none))]), (75, [.d (.nils)]), (76, [.d (.sc (.pointer none)), .d (.nils)]), (77, [.d (.sc (.pointer none)), .d (.nils)]), (78, [.d (.sc .nilIface)]), (79, [.d (.sc .nilIface)]), (81, [.d (.sc .nilFunc)]), (82, [.d (.sc .nilFunc)]), (83, [.d (.sc .nilFunc)]), (84, [.d (.sc .nilFunc)]), (85, [.d (.nils)]), (86, [.d (.sc .nilFunc)]), (87, [.d (.sc (.int .i64 (0))), .d (.sc (.int .i64 (0)))]), (88, [.d (.sc (.int .i64 (0))), .d (.sc (.int .i64 (0)))]), (89, [.d (.sc .nilFunc)]), (90, [.d (.sc .nilFunc)]), (91, [.d (.sc .nilFunc)]), (92, [.d (.sc .nilFunc)]), (93, [.d (.sc .nilFunc)]), (94, [.d (.sc .nilFunc)]), (95, [.d (.sc (.map none))]), (96, [.d (.sc .nilFunc)]), (97, [.d (.sc .nilFunc)]), (98, [.d (.sc .nilFunc)]), (99, [.d (.sc .nilFunc)]), (100, [.d (.sc .nilFunc)]), (101, [.d (.sc .nilFunc)]), (102, [.d (.sc .nilFunc)]), (103, [.d (.sc (.pointer none))]), (104, [.d (.sc (.map none))]), (105, [.d (.sc .nilFunc)]), (106, [.d (.sc .nilFunc)]), (107, [.d (.sc .nilFunc)]), (109, [.d (.sc .nilFunc)]), (110, [.d (.sc .nilFunc)]), (111, [.d (.sc .nilFunc)]), (112, [.d (.sc .nilFunc)]), (113, [.d (.sc .nilFunc)]), (114, [.d (.sc .nilFunc)]), (115, [.d (.sc .nilFunc)]), (116, [.d (.sc .nilFunc)]), (117, [.d (.sc .nilFunc)]), (118, [.d (.sc .nilFunc)]), (119, [.d (.sc .nilFunc)]), (120, [.d (.sc (.pointer none))]), (121, [.d (.sc .nilFunc)]), (122, [.d (.sc (.int .u32 (0)))]), (124, [.d (.sc .nilFunc)]), (125, [.d (.sc (.int .u64 (0)))]), (127, [.d (.sc .nilFunc)]), (128, [.d (.sc .nilFunc)]), (129, [.d (.sc .nilFunc)]), (130, [.d (.sc .nilFunc)]), (131, [.d (.sc .nilFunc)]), (132, [.d (.sc (.int .i64 (0)))]), (134, [.d (.sc .nilFunc)]), (135, [.d (.sc .nilFunc)]), (136, [.d (.sc .nilFunc)]), (138, [.d (.sc .nilFunc)]), (139, [.d (.sc .nilFunc)]), (140, [.d (.sc .nilFunc)]), (141, [.d (.sc (.int .u64 (0)))]), (142, [.d (.sc .nilFunc)]), (143, [.d (.sc .nilFunc)]), (144, [.d (.sc .nilFunc)]), (145, [.d (.sc (.pointer none))]), (146, [.d (.sc .nilFunc)]), (147, [.d (.sc (.pointer none))]), (149, [.d (.sc .nilFunc)]), (150, [.d (.sc (.pointer none)), .d (.sc (.pointer none)), .d (.sc (.pointer none)), .d (.sc (.string ⟨#[]⟩))]), (151, [.d (.sc (.pointer none)), .d (.sc (.pointer none)), .d (.sc (.pointer none)), .d (.sc (.string ⟨#[]⟩))]), (152, []), (153, []), (154, []), (155, [.d (.sc (.int .u8 (0)))]), (156, [.d (.sc (.int .u8 (0)))]), (157, [.d (.sc .nilFunc)]), (158, [.d (.sc (.int .i32 (0)))]), (159, [.d (.sc (.int .i32 (0)))]), (160, [.d (.sc (.int .u64 (0))), .d (.sc (.int .u64 (0))), .d (.sc (.int .u32 (0))), .d (.sc (.int .u8 (0))), .d (.sc (.int .u8 (0))), .d (.sc (.int .u8 (0))), .d (.sc (.int .u8 (0))), .d (.sc .nilFunc), .d (.sc (.pointer none)), .d (.sc (.int .i32 (0))), .d (.sc (.int .i32 (0)))]), (161, [.d (.sc (.int .u64 (0))), .d (.sc (.int .u64 (0))), .d (.sc (.int .u32 (0))), .d (.sc (.int .u8 (0))), .d (.sc (.int .u8 (0))), .d (.sc (.int .u8 (0))), .d (.sc (.int .u8 (0))), .d (.sc .nilFunc), .d (.sc (.pointer none)), .d (.sc (.int .i32 (0))), .d (.sc (.int .i32 (0)))])]
def tb_zd : List (Nat × (List D)) := [(1, [.sc .nilFunc]), (2, [.sc (.int .i64 (0))]), (3, [.sc (.int .i64 (0))]), (4, [.sc (.bool false)]), (5, [.sc (.int .u8 (0))]), (6, [.sc (.int .u8 (0))]), (7, [.sc (.int .i64 (0)), .sc (.int .i64 (0)), .sc (.bool false), .sc (.int .u8 (0))]), (8, [.sc (.int .i64 (0)), .sc (.int .i64 (0)), .sc (.bool false), .sc (.int .u8 (0))]), (9, [.sc (.string ⟨#[]⟩)]), (10, [.sc (.string ⟨#[]⟩)]), (11, [.sc (.string ⟨#[]⟩)]), (12, [.sc (.int .u64 (0))]), (13, [.sc (.string ⟨#[]⟩), .sc (.int .u64 (0))]), (14, [.sc (.string ⟨#[]⟩), .sc (.int .u64 (0))]), (15, [.sc (.pointer none)]), (16, [.sc (.pointer none)]), (17, [.sc (.pointer none)]), (18, [.sc (.pointer none)]), (19, [.sc (.pointer none)]), (20, [.sc .nilIface]), (21, [.sc (.int .i32 (0))]), (22, [.sc (.string ⟨#[]⟩), .sc (.string ⟨#[]⟩), .sc (.string ⟨#[]⟩)]), (23, [.sc (.string ⟨#[]⟩), .sc (.string ⟨#[]⟩), .sc (.string ⟨#[]⟩)]), (24, [.nils]), (25, [.sc (.string ⟨#[]⟩), .sc (.string ⟨#[]⟩), .sc (.string ⟨#[]⟩), .nils]), (26, [.sc (.string ⟨#[]⟩), .sc (.string ⟨#[]⟩), .sc (.string ⟨#[]⟩), .nils]), (27, [.nils]), (28, [.sc .nilFunc]), (29, [.sc (.int .i64 (0))]), (31, [.sc .nilFunc]), (32, [.sc .nilFunc]), (33, [.nils]), (34, [.sc (.string ⟨#[]⟩), .sc (.string ⟨#[]⟩), .sc (.string ⟨#[]⟩), .sc (.string ⟨#[]⟩), .sc (.string ⟨#[]⟩), .sc (.string ⟨#[]⟩), .sc (.bool false), .nils]), (35, [.sc (.string ⟨#[]⟩), .sc (.string ⟨#[]⟩), .sc (.string ⟨#[]⟩), .sc (.string ⟨#[]⟩), .sc (.string ⟨#[]⟩), .sc (.string ⟨#[]⟩), .sc (.bool false), .nils]), (36, [.sc .nilFunc]), (37, [.sc .nilFunc]), (38, [.sc .nilFunc]), (39, [.nils]), (40, [.nils]), (41, [.sc (.int .u64 (0))]), (42, [.sc .nilFunc]), (43, [.sc .nilFunc]), (44, [.sc (.int .i64 (0)), .sc (.int .i64 (0)), .sc (.string ⟨#[]⟩), .sc (.string ⟨#[]⟩), .sc (.string ⟨#[]⟩), .sc (.string ⟨#[]⟩), .sc (.string ⟨#[]⟩), .sc (.string ⟨#[]⟩), .sc (.bool false), .nils, .sc (.int .i64 (0))]), (45, [.sc (.int .i64 (0)), .sc (.int .i64 (0)), .sc (.string ⟨#[]⟩), .sc (.string ⟨#[]⟩), .sc (.string ⟨#[]⟩), .sc (.string ⟨#[]⟩), .sc (.string ⟨#[]⟩), .sc (.string ⟨#[]⟩), .sc (.bool false), .nils, .sc (.int .i64 (0))]), (46, [.sc .nilFunc]), (47, [.sc .nilFunc]), (48, [.sc .nilFunc]), (49, [.sc .nilFunc]), (50, [.sc .nilFunc]), (51, [.nils]), (52, [.sc .nilFunc]), (53, [.nils]), (54, [.sc (.string ⟨#[]⟩), .sc (.string ⟨#[]⟩), .sc (.string ⟨#[]⟩), .sc (.string ⟨#[]⟩), .sc (.string ⟨#[]⟩), .sc (.string ⟨#[]⟩), .sc (.string ⟨#[]⟩), .nils, .nils, .nils]), (55, [.sc (.string ⟨#[]⟩), .sc (.string ⟨#[]⟩), .sc (.string ⟨#[]⟩), .sc (.string ⟨#[]⟩), .sc (.string ⟨#[]⟩), .sc (.string ⟨#[]⟩), .sc (.string ⟨#[]⟩), .nils, .nils, .nils]), (57, [.sc .nilFunc]), (58, [.sc .nilFunc]), (59, [.sc .nilFunc]), (60, [.sc .nilFunc]), (61, [.sc .nilFunc]), (62, [.sc .nilFunc]), (63, [.sc .nilFunc]), (64, [.sc .nilFunc]), (65, [.sc (.string ⟨#[]⟩), .sc (.string ⟨#[]⟩)]), (66, [.sc (.string ⟨#[]⟩), .sc (.string ⟨#[]⟩)]), (67, [.sc .nilFunc]), (68, [.sc .nilFunc]), (69, [.sc .nilFunc]), (70, [.sc .nilFunc]), (71, [.sc (.string ⟨#[]⟩), .sc (.string ⟨#[]⟩)]), (72, [.sc (.string ⟨#[]⟩), .sc (.string ⟨#[]⟩)]), (73, [.sc .nilFunc]), (74, [.sc (.pointer none)]), (75, [.nils]), (76, [.sc (.pointer none), .nils]), (77, [.sc (.pointer none), .nils]), (78, [.sc .nilIface]), (79, [.sc .nilIface]), (81, [.sc .nilFunc]), (82, [.sc .nilFunc]), (83, [.sc .nilFunc]), (84, [.sc .nilFunc]), (85, [.nils]), (86, [.sc .nilFunc]), (87, [.sc (.int .i64 (0)), .sc (.int .i64 (0))]), (88, [.sc (.int .i64 (0)), .sc (.int .i64 (0))]), (89, [.sc .nilFunc]), (90, [.sc .nilFunc]), (91, [.sc .nilFunc]), (92, [.sc .nilFunc]), (93, [.sc .nilFunc]), (94, [.sc .nilFunc]), (95, [.sc (.map none)]), (96, [.sc .nilFunc]), (97, [.sc .nilFunc]), (98, [.sc .nilFunc]), (99, [.sc .nilFunc]), (100, [.sc .nilFunc]), (101, [.sc .nilFunc]), (102, [.sc .nilFunc]), (103, [.sc (.pointer none)]), (104, [.sc (.map none)]), (105, [.sc .nilFunc]), (106, [.sc .nilFunc]), (107, [.sc .nilFunc]), (109, [.sc .nilFunc]), (110, [.sc .nilFunc]), (111, [.sc .nilFunc]), (112, [.sc .nilFunc]), (113, [.sc .nilFunc]), (114, [.sc .nilFunc]), (115, [.sc .nilFunc]), (116, [.sc .nilFunc]), (117, [.sc .nilFunc]), (118, [.sc .nilFunc]), (119, [.sc .nilFunc]), (120, [.sc (.pointer none)]), (121, [.sc .nilFunc]), (122, [.sc (.int .u32 (0))]), (124, [.sc .nilFunc]), (125, [.sc (.int .u64 (0))]), (127, [.sc .nilFunc]), (128, [.sc .nilFunc]), (129, [.sc .nilFunc]), (130, [.sc .nilFunc]), (131, [.sc .nilFunc]), (132, [.sc (.int .i64 (0))]), (134, [.sc .nilFunc]), (135, [.sc .nilFunc]), (136, [.sc .nilFunc]), (138, [.sc .nilFunc]), (139, [.sc .nilFunc]), (140, [.sc .nilFunc]), (141, [.sc (.int .u64 (0))]), (142, [.sc .nilFunc]), (143, [.sc .nilFunc]), (144, [.sc .nilFunc]), (145, [.sc (.pointer none)]), (146, [.sc .nilFunc]), (147, [.sc (.pointer none)]), (149, [.sc .nilFunc]), (150, [.sc (.pointer none), .sc (.pointer none), .sc (.pointer none), .sc (.string ⟨#[]⟩)]), (151, [.sc (.pointer none), .sc (.pointer none), .sc (.pointer none), .sc (.string ⟨#[]⟩)]), (152, []), (153, []), (154, []), (155, [.sc (.int .u8 (0))]), (156, [.sc (.int .u8 (0))]), (157, [.sc .nilFunc]), (158, [.sc (.int .i32 (0))]), (159, [.sc (.int .i32 (0))]), (160, [.sc (.int .u64 (0)), .sc (.int .u64 (0)), .sc (.int .u32 (0)), .sc (.int .u8 (0)), .sc (.int .u8 (0)), .sc (.int .u8 (0)), .sc (.int .u8 (0)), .sc .nilFunc, .sc (.pointer none), .sc (.int .i32 (0)), .sc (.int .i32 (0))]), (161, [.sc (.int .u64 (0)), .sc (.int .u64 (0)), .sc (.int .u32 (0)), .sc (.int .u8 (0)), .sc (.int .u8 (0)), .sc (.int .u8 (0)), .sc (.int .u8 (0)), .sc .nilFunc, .sc (.pointer none), .sc (.int .i32 (0)), .sc (.int .i32 (0))])]
def tb_bt : List (Nat × (List (Nat × Nat))) := [(7, [(0, 1), (1, 1), (2, 1), (3, 1)]), (8, [(0, 1), (1, 1), (2, 1), (3, 1)]), (13, [(0, 1), (1, 1)]), (14, [(0, 1), (1, 1)]), (18, [(0, 1)]), (19, [(0, 1)]), (22, [(0, 1), (1, 1), (2, 1)]), (23, [(0, 1), (1, 1), (2, 1)]), (25, [(0, 3), (3, 1)]), (26, [(0, 3), (3, 1)]), (34, [(0, 1), (1, 1), (2, 1), (3, 1), (4, 1), (5, 1), (6, 1), (7, 1)]), (35, [(0, 1), (1, 1), (2, 1), (3, 1), (4, 1), (5, 1), (6, 1), (7, 1)]), (44, [(0, 1), (1, 1), (2, 8), (10, 1)]), (45, [(0, 1), (1, 1), (2, 8), (10, 1)]), (54, [(0, 3), (3, 1), (4, 1), (5, 1), (6, 1), (7, 1), (8, 1), (9, 1)]), (55, [(0, 3), (3, 1), (4, 1), (5, 1), (6, 1), (7, 1), (8, 1), (9, 1)]), (65, [(0, 1), (1, 1)]), (66, [(0, 1), (1, 1)]), (71, [(0, 1), (1, 1)]), (72, [(0, 1), (1, 1)]), (76, [(0, 1), (1, 1)]), (77, [(0, 1), (1, 1)]), (87, [(0, 1), (1, 1)]), (88, [(0, 1), (1, 1)]), (150, [(0, 1), (1, 1), (2, 1), (3, 1)]), (151, [(0, 1), (1, 1), (2, 1), (3, 1)]), (153, [(0, 0)]), (154, [(0, 0)]), (160, [(0, 1), (1, 1), (2, 1), (3, 1), (4, 1), (5, 1), (6, 1), (7, 1), (8, 1), (9, 1), (10, 1)]), (161, [(0, 1), (1, 1), (2, 1), (3, 1), (4, 1), (5, 1), (6, 1), (7, 1), (8, 1), (9, 1), (10, 1)])]
def tb_ss : List (Nat × (Nat)) := [(22, 3), (23, 3), (65, 2), (66, 2), (71, 2), (72, 2)]
def tb_cl : List (Nat × (Unit)) := [(2, ()), (3, ()), (4, ()), (5, ()), (6, ()), (7, ()), (8, ()), (9, ()), (10, ()), (11, ()), (12, ()), (13, ()), (14, ()), (15, ()), (16, ()), (17, ()), (18, ()), (19, ()), (20, ()), (21, ()), (22, ()), (23, ()), (24, ()), (25, ()), (26, ()), (27, ()), (28, ()), (29, ()), (30, ()), (31, ()), (32, ()), (33, ()), (34, ()), (35, ()), (36, ()), (37, ()), (38, ()), (39, ()), (40, ()), (41, ()), (42, ()), (43, ()), (44, ()), (45, ()), (46, ()), (47, ()), (48, ()), (49, ()), (50, ()), (51, ()), (52, ()), (53, ()), (54, ()), (55, ()), (56, ()), (57, ()), (58, ()), (59, ()), (60, ()), (61, ()), (62, ()), (63, ()), (64, ()), (65, ()), (66, ()), (67, ()), (68, ()), (69, ()), (70, ()), (71, ()), (72, ()), (73, ()), (74, ()), (75, ()), (76, ()), (77, ()), (78, ()), (79, ()), (80, ()), (81, ()), (82, ()), (84, ()), (85, ()), (86, ()), (87, ()), (88, ()), (89, ()), (90, ()), (91, ()), (92, ()), (94, ()), (95, ()), (96, ()), (97, ()), (98, ()), (99, ()), (100, ()), (101, ()), (102, ()), (103, ()), (104, ()), (105, ()), (106, ()), (107, ()), (108, ()), (109, ())]
def tb_by : List (Nat × (Nat)) := [(75, 5)]
def tb_pt : List (Nat × (Unit)) := [(15, ()), (16, ()), (17, ()), (74, ()), (103, ()), (145, ()), (147, ())]
theorem tok_ld : ∀ x ∈ tb_ld, ldT Try.prog x.1 = some x.2 :=
  all_cons (by kernel_rfl) (all_cons (by kernel_rfl) (all_cons (by kernel_rfl) (all_cons (by kernel_rfl) (all_cons (by kernel_rfl) (all_cons (by kernel_rfl) (all_cons (by kernel_rfl) (all_cons (by kernel_rfl) (all_cons (by kernel_rfl) (all_cons (by kernel_rfl) (all_cons (by kernel_rfl) (all_cons (by kernel_rfl) (all_cons (by kernel_rfl) (all_cons (by kernel_rfl) (all_cons (by kernel_rfl) (all_cons (by kernel_rfl) (all_cons (by kernel_rfl) (all_cons (by kernel_rfl) (all_cons (by kernel_rfl) (all_cons (by kernel_rfl) (all_cons (by kernel_rfl) (all_cons (by kernel_rfl) (all_cons (by kernel_rfl) (all_cons (by kernel_rfl) (all_cons (by kernel_rfl) (all_cons (by kernel_rfl) (all_cons (by kernel_rfl) (all_cons (by kernel_rfl) (all_cons (by kernel_rfl) (all_cons (by kernel_rfl) (all_cons (by kernel_rfl) (all_cons (by kernel_rfl) (all_cons (by kernel_rfl) (all_cons (by kernel_rfl) (all_cons (by kernel_rfl) (all_cons (by kernel_rfl) (all_cons (by kernel_rfl) (all_cons (by kernel_rfl) (all_cons (by kernel_rfl) (all_cons (by kernel_rfl) (all_cons (by kernel_rfl) (all_cons (by kernel_rfl) (all_cons (by kernel_rfl) (all_cons (by kernel_rfl) (all_cons (by kernel_rfl) (all_cons (by kernel_rfl) (all_cons (by kernel_rfl) (all_cons (by kernel_rfl) (all_cons (by kernel_rfl) (all_cons (by kernel_rfl) (all_cons (by kernel_rfl) (all_cons (by kernel_rfl) (all_cons (by kernel_rfl) (all_cons (by kernel_rfl) (all_cons (by kernel_rfl) (all_cons (by kernel_rfl) (all_cons (by kernel_rfl) (all_cons (by kernel_rfl) (all_cons (by kernel_rfl) (all_cons (by kernel_rfl) (all_cons (by kernel_rfl) (all_cons (by kernel_rfl) (all_cons (by kernel_rfl) (all_cons (by kernel_rfl) (all_cons (by kernel_rfl) (all_cons (by kernel_rfl) (all_cons (by kernel_rfl) (all_cons (by kernel_rfl) (all_cons (by kernel_rfl) (all_cons (by kernel_rfl) (all_cons (by kernel_rfl) (all_cons (by kernel_rfl) (all_cons (by kernel_rfl) (all_cons (by kernel_rfl) (all_cons (by kernel_rfl) (all_cons (by kernel_rfl) (all_cons (by kernel_rfl) (all_cons (by kernel_rfl) (all_cons (by kernel_rfl) (all_cons (by kernel_rfl) (all_cons (by kernel_rfl) (all_cons (by kernel_rfl) (all_cons (by kernel_rfl) (all_cons (by kernel_rfl) (all_cons (by kernel_rfl) (all_cons (by kernel_rfl) (all_cons (by kernel_rfl) (all_cons (by kernel_rfl) (all_cons (by kernel_rfl) (all_cons (by kernel_rfl) (all_cons (by kernel_rfl) (all_cons (by kernel_rfl) (all_cons (by kernel_rfl) (all_cons (by kernel_rfl) (all_cons (by kernel_rfl) (all_cons (by kernel_rfl) (all_cons (by kernel_rfl) (all_cons (by kernel_rfl) (all_cons (by kernel_rfl) (all_cons (by kernel_rfl) (all_cons (by kernel_rfl) (all_cons (by kernel_rfl) (all_cons (by kernel_rfl) (all_cons (by kernel_rfl) (all_cons (by kernel_rfl) (all_cons (by kernel_rfl) (all_cons (by kernel_rfl) (all_cons (by kernel_rfl) (all_cons (by kernel_rfl) (all_cons (by kernel_rfl) (all_cons (by kernel_rfl) (all_cons (by kernel_rfl) (all_cons (by kernel_rfl) (all_cons (by kernel_rfl) (all_cons (by kernel_rfl) (all_cons (by kernel_rfl) (all_cons (by kernel_rfl) (all_cons (by kernel_rfl) (all_cons (by kernel_rfl) (all_cons (by kernel_rfl) (all_cons (by kernel_rfl) (all_cons (by kernel_rfl) (all_cons (by kernel_rfl) (all_cons (by kernel_rfl) (all_cons (by kernel_rfl) (all_cons (by kernel_rfl) (all_cons (by kernel_rfl) (all_cons (by kernel_rfl) (all_cons (by kernel_rfl) (all_cons (by kernel_rfl) (all_cons (by kernel_rfl) (all_cons (by kernel_rfl) (all_cons (by kernel_rfl) (all_cons (by kernel_rfl) (all_cons (by kernel_rfl) (all_cons (by kernel_rfl) (all_cons (by kernel_rfl) (all_cons (by kernel_rfl) (all_cons (by kernel_rfl) (all_cons (by kernel_rfl) (all_cons (by kernel_rfl) (all_cons (by kernel_rfl) (all_cons (by kernel_rfl) (all_cons (by kernel_rfl) (all_cons (by kernel_rfl) (all_cons (by kernel_rfl) (all_cons (by kernel_rfl) (all_cons (by kernel_rfl) (all_cons (by kernel_rfl) (all_cons (by kernel_rfl) (all_cons (by kernel_rfl) (all_cons (by kernel_rfl) (all_cons (by kernel_rfl) (all_cons (by kernel_rfl) (all_cons (by kernel_rfl) (all_cons (by kernel_rfl) (all_cons (by kernel_rfl) (all_cons (by kernel_rfl) (all_cons (by kernel_rfl) (all_cons (by kernel_rfl) (all_cons (by kernel_rfl) (all_cons (by kernel_rfl) all_nil)))))))))))))))))))))))))))))))))))))))))))))))))))))))))))))))))))))))))))))))))))))))))))))))))))))))))))))))))))))))))))))))))))))))))))))))))))))))))))))))))
theorem tok_fo : ∀ x ∈ tb_fo, ∀ y ∈ x.2, fieldOff Try.prog x.1 y.1 = some y.2 :=
  all_cons (all_cons (by kernel_rfl) (all_cons (by kernel_rfl) (all_cons (by kernel_rfl) (all_cons (by kernel_rfl) all_nil)))) (all_cons (all_cons (by kernel_rfl) (all_cons (by kernel_rfl) (all_cons (by kernel_rfl) (all_cons (by kernel_rfl) all_nil)))) (all_cons (all_cons (by kernel_rfl) (all_cons (by kernel_rfl) all_nil)) (all_cons (all_cons (by kernel_rfl) (all_cons (by kernel_rfl) all_nil)) (all_cons (all_cons (by kernel_rfl) all_nil) (all_cons (all_cons (by kernel_rfl) all_nil) (all_cons (all_cons (by kernel_rfl) (all_cons (by kernel_rfl) (all_cons (by kernel_rfl) all_nil))) (all_cons (all_cons (by kernel_rfl) (all_cons (by kernel_rfl) (all_cons (by kernel_rfl) all_nil))) (all_cons (all_cons (by kernel_rfl) (all_cons (by kernel_rfl) all_nil)) (all_cons (all_cons (by kernel_rfl) (all_cons (by kernel_rfl) all_nil)) (all_cons (all_cons (by kernel_rfl) (all_cons (by kernel_rfl) (all_cons (by kernel_rfl) (all_cons (by kernel_rfl) (all_cons (by kernel_rfl) (all_cons (by kernel_rfl) (all_cons (by kernel_rfl) (all_cons (by kernel_rfl) all_nil)))))))) (all_cons (all_cons (by kernel_rfl) (all_cons (by kernel_rfl) (all_cons (by kernel_rfl) (all_cons (by kernel_rfl) (all_cons (by kernel_rfl) (all_cons (by kernel_rfl) (all_cons (by kernel_rfl) (all_cons (by kernel_rfl) all_nil)))))))) (all_cons (all_cons (by kernel_rfl) (all_cons (by kernel_rfl) (all_cons (by kernel_rfl) (all_cons (by kernel_rfl) all_nil)))) (all_cons (all_cons (by kernel_rfl) (all_cons (by kernel_rfl) (all_cons (by kernel_rfl) (all_cons (by kernel_rfl) all_nil)))) (all_cons (all_cons (by kernel_rfl) (all_cons (by kernel_rfl) (all_cons (by kernel_rfl) (all_cons (by kernel_rfl) (all_cons (by kernel_rfl) (all_cons (by kernel_rfl) (all_cons (by kernel_rfl) (all_cons (by kernel_rfl) all_nil)))))))) (all_cons (all_cons (by kernel_rfl) (all_cons (by kernel_rfl) (all_cons (by kernel_rfl) (all_cons (by kernel_rfl) (all_cons (by kernel_rfl) (all_cons (by kernel_rfl) (all_cons (by kernel_rfl) (all_cons (by kernel_rfl) all_nil)))))))) (all_cons (all_cons (by kernel_rfl) (all_cons (by kernel_rfl) all_nil)) (all_cons (all_cons (by kernel_rfl) (all_cons (by kernel_rfl) all_nil)) (all_cons (all_cons (by kernel_rfl) (all_cons (by kernel_rfl) all_nil)) (all_cons (all_cons (by kernel_rfl) (all_cons (by kernel_rfl) all_nil)) (all_cons (all_cons (by kernel_rfl) (all_cons (by kernel_rfl) all_nil)) (all_cons (all_cons (by kernel_rfl) (all_cons (by kernel_rfl) all_nil)) (all_cons (all_cons (by kernel_rfl) (all_cons (by kernel_rfl) all_nil)) (all_cons (all_cons (by kernel_rfl) (all_cons (by kernel_rfl) all_nil)) (all_cons (all_cons (by kernel_rfl) (all_cons (by kernel_rfl) (all_cons (by kernel_rfl) (all_cons (by kernel_rfl) all_nil)))) (all_cons (all_cons (by kernel_rfl) (all_cons (by kernel_rfl) (all_cons (by kernel_rfl) (all_cons (by kernel_rfl) all_nil)))) (all_cons (all_cons (by kernel_rfl) (all_cons (by kernel_rfl) (all_cons (by kernel_rfl) (all_cons (by kernel_rfl) (all_cons (by kernel_rfl) (all_cons (by kernel_rfl) (all_cons (by kernel_rfl) (all_cons (by kernel_rfl) (all_cons (by kernel_rfl) (all_cons (by kernel_rfl) (all_cons (by kernel_rfl) all_nil))))))))))) (all_cons (all_cons (by kernel_rfl) (all_cons (by kernel_rfl) (all_cons (by kernel_rfl) (all_cons (by kernel_rfl) (all_cons (by kernel_rfl) (all_cons (by kernel_rfl) (all_cons (by kernel_rfl) (all_cons (by kernel_rfl) (all_cons (by kernel_rfl) (all_cons (by kernel_rfl) (all_cons (by kernel_rfl) all_nil))))))))))) all_nil)))))))))))))))))))))))))))
theorem tok_el : ∀ x ∈ tb_el, elT Try.prog x.1 = some x.2 :=
  all_cons (by kernel_rfl) (all_cons (by kernel_rfl) (all_cons (by kernel_rfl) (all_cons (by kernel_rfl) (all_cons (by kernel_rfl) (all_cons (by kernel_rfl) (all_cons (by kernel_rfl) (all_cons (by kernel_rfl) (all_cons (by kernel_rfl) all_nil))))))))
theorem tok_ap : ∀ x ∈ tb_ap, appT Try.prog x.1 = some x.2 :=
  all_cons (by kernel_rfl) (all_cons (by kernel_rfl) (all_cons (by kernel_rfl) (all_cons (by kernel_rfl) (all_cons (by kernel_rfl) (all_cons (by kernel_rfl) (all_cons (by kernel_rfl) (all_cons (by kernel_rfl) (all_cons (by kernel_rfl) all_nil))))))))
theorem tok_kd : ∀ x ∈ tb_kd, kdOf Try.prog x.1 = x.2 :=
  all_cons (by kernel_rfl) (all_cons (by kernel_rfl) (all_cons (by kernel_rfl) (all_cons (by kernel_rfl) (all_cons (by kernel_rfl) (all_cons (by kernel_rfl) (all_cons (by kernel_rfl) (all_cons (by kernel_rfl) (all_cons (by kernel_rfl) (all_cons (by kernel_rfl) (all_cons (by kernel_rfl) (all_cons (by kernel_rfl) (all_cons (by kernel_rfl) (all_cons (by kernel_rfl) (all_cons (by kernel_rfl) (all_cons (by kernel_rfl) (all_cons (by kernel_rfl) (all_cons (by kernel_rfl) (all_cons (by kernel_rfl) (all_cons (by kernel_rfl) (all_cons (by kernel_rfl) (all_cons (by kernel_rfl) (all_cons (by kernel_rfl) (all_cons (by kernel_rfl) (all_cons (by kernel_rfl) (all_cons (by kernel_rfl) (all_cons (by kernel_rfl) (all_cons (by kernel_rfl) (all_cons (by kernel_rfl) all_nil))))))))))))))))))))))))))))
theorem tok_zb : ∀ x ∈ tb_zb, zeroOf Try.prog x.1 = some x.2 :=
  all_cons (by kernel_rfl) (all_cons (by kernel_rfl) (all_cons (by kernel_rfl) (all_cons (by kernel_rfl) (all_cons (by kernel_rfl) (all_cons (by kernel_rfl) (all_cons (by kernel_rfl) (all_cons (by kernel_rfl) (all_cons (by kernel_rfl) (all_cons (by kernel_rfl) (all_cons (by kernel_rfl) (all_cons (by kernel_rfl) (all_cons (by kernel_rfl) (all_cons (by kernel_rfl) (all_cons (by kernel_rfl) (all_cons (by kernel_rfl) (all_cons (by kernel_rfl) (all_cons (by kernel_rfl) (all_cons (by kernel_rfl) (all_cons (by kernel_rfl) (all_cons (by kernel_rfl) (all_cons (by kernel_rfl) (all_cons (by kernel_rfl) (all_cons (by kernel_rfl) (all_cons (by kernel_rfl) (all_cons (by kernel_rfl) (all_cons (by kernel_rfl) (all_cons (by kernel_rfl) (all_cons (by kernel_rfl) (all_cons (by kernel_rfl) (all_cons (by kernel_rfl) (all_cons (by kernel_rfl) (all_cons (by kernel_rfl) (all_cons (by kernel_rfl) (all_cons (by kernel_rfl) (all_cons (by kernel_rfl) (all_cons (by kernel_rfl) (all_cons (by kernel_rfl) (all_cons (by kernel_rfl) (all_cons (by kernel_rfl) (all_cons (by kernel_rfl) (all_cons (by kernel_rfl) (all_cons (by kernel_rfl) (all_cons (by kernel_rfl) (all_cons (by kernel_rfl) (all_cons (by kernel_rfl) (all_cons (by kernel_rfl) (all_cons (by kernel_rfl) (all_cons (by kernel_rfl) (all_cons (by kernel_rfl) (all_cons (by kernel_rfl) (all_cons (by kernel_rfl) (all_cons (by kernel_rfl) (all_cons (by kernel_rfl) (all_cons (by kernel_rfl) (all_cons (by kernel_rfl) (all_cons (by kernel_rfl) (all_cons (by kernel_rfl) (all_cons (by kernel_rfl) (all_cons (by kernel_rfl) (all_cons (by kernel_rfl) (all_cons (by kernel_rfl) (all_cons (by kernel_rfl) (all_cons (by kernel_rfl) (all_cons (by kernel_rfl) (all_cons (by kernel_rfl) (all_cons (by kernel_rfl) (all_cons (by kernel_rfl) (all_cons (by kernel_rfl) (all_cons (by kernel_rfl) (all_cons (by kernel_rfl) (all_cons (by kernel_rfl) (all_cons (by kernel_rfl) (all_cons (by kernel_rfl) (all_cons (by kernel_rfl) (all_cons (by kernel_rfl) (all_cons (by kernel_rfl) (all_cons (by kernel_rfl) (all_cons (by kernel_rfl) (all_cons (by kernel_rfl) (all_cons (by kernel_rfl) (all_cons (by kernel_rfl) (all_cons (by kernel_rfl) (all_cons (by kernel_rfl) (all_cons (by kernel_rfl) (all_cons (by kernel_rfl) (all_cons (by kernel_rfl) (all_cons (by kernel_rfl) (all_cons (by kernel_rfl) (all_cons (by kernel_rfl) (all_cons (by kernel_rfl) (all_cons (by kernel_rfl) (all_cons (by kernel_rfl) (all_cons (by kernel_rfl) (all_cons (by kernel_rfl) (all_cons (by kernel_rfl) (all_cons (by kernel_rfl) (all_cons (by kernel_rfl) (all_cons (by kernel_rfl) (all_cons (by kernel_rfl) (all_cons (by kernel_rfl) (all_cons (by kernel_rfl) (all_cons (by kernel_rfl) (all_cons (by kernel_rfl) (all_cons (by kernel_rfl) (all_cons (by kernel_rfl) (all_cons (by kernel_rfl) (all_cons (by kernel_rfl) (all_cons (by kernel_rfl) (all_cons (by kernel_rfl) (all_cons (by kernel_rfl) (all_cons (by kernel_rfl) (all_cons (by kernel_rfl) (all_cons (by kernel_rfl) (all_cons (by kernel_rfl) (all_cons (by kernel_rfl) (all_cons (by kernel_rfl) (all_cons (by kernel_rfl) (all_cons (by kernel_rfl) (all_cons (by kernel_rfl) (all_cons (by kernel_rfl) (all_cons (by kernel_rfl) (all_cons (by kernel_rfl) (all_cons (by kernel_rfl) (all_cons (by kernel_rfl) (all_cons (by kernel_rfl) (all_cons (by kernel_rfl) (all_cons (by kernel_rfl) (all_cons (by kernel_rfl) (all_cons (by kernel_rfl) (all_cons (by kernel_rfl) (all_cons (by kernel_rfl) (all_cons (by kernel_rfl) (all_cons (by kernel_rfl) (all_cons (by kernel_rfl) (all_cons (by kernel_rfl) (all_cons (by kernel_rfl) (all_cons (by kernel_rfl) (all_cons (by kernel_rfl) (all_cons (by kernel_rfl) (all_cons (by kernel_rfl) (all_cons (by kernel_rfl) (all_cons (by kernel_rfl) (all_cons (by kernel_rfl) (all_cons (by kernel_rfl) (all_cons (by kernel_rfl) (all_cons (by kernel_rfl) (all_cons (by kernel_rfl) (all_cons (by kernel_rfl) (all_cons (by kernel_rfl) (all_cons (by kernel_rfl) (all_cons (by kernel_rfl) all_nil)))))))))))))))))))))))))))))))))))))))))))))))))))))))))))))))))))))))))))))))))))))))))))))))))))))))))))))))))))))))))))))))))))))))))))))))))))))))
theorem tok_zd : ∀ x ∈ tb_zd, zeroD Try.prog x.1 = some x.2 :=
  all_cons (by kernel_rfl) (all_cons (by kernel_rfl) (all_cons (by kernel_rfl) (all_cons (by kernel_rfl) (all_cons (by kernel_rfl) (all_cons (by kernel_rfl) (all_cons (by kernel_rfl) (all_cons (by kernel_rfl) (all_cons (by kernel_rfl) (all_cons (by kernel_rfl) (all_cons (by kernel_rfl) (all_cons (by kernel_rfl) (all_cons (by kernel_rfl) (all_cons (by kernel_rfl) (all_cons (by kernel_rfl) (all_cons (by kernel_rfl) (all_cons (by kernel_rfl) (all_cons (by kernel_rfl) (all_cons (by kernel_rfl) (all_cons (by kernel_rfl) (all_cons (by kernel_rfl) (all_cons (by kernel_rfl) (all_cons (by kernel_rfl) (all_cons (by kernel_rfl) (all_cons (by kernel_rfl) (all_cons (by kernel_rfl) (all_cons (by kernel_rfl) (all_cons (by kernel_rfl) (all_cons (by kernel_rfl) (all_cons (by kernel_rfl) (all_cons (by kernel_rfl) (all_cons (by kernel_rfl) (all_cons (by kernel_rfl) (all_cons (by kernel_rfl) (all_cons (by kernel_rfl) (all_cons (by kernel_rfl) (all_cons (by kernel_rfl) (all_cons (by kernel_rfl) (all_cons (by kernel_rfl) (all_cons (by kernel_rfl) (all_cons (by kernel_rfl) (all_cons (by kernel_rfl) (all_cons (by kernel_rfl) (all_cons (by kernel_rfl) (all_cons (by kernel_rfl) (all_cons (by kernel_rfl) (all_cons (by kernel_rfl) (all_cons (by kernel_rfl) (all_cons (by kernel_rfl) (all_cons (by kernel_rfl) (all_cons (by kernel_rfl) (all_cons (by kernel_rfl) (all_cons (by kernel_rfl) (all_cons (by kernel_rfl) (all_cons (by kernel_rfl) (all_cons (by kernel_rfl) (all_cons (by kernel_rfl) (all_cons (by kernel_rfl) (all_cons (by kernel_rfl) (all_cons (by kernel_rfl) (all_cons (by kernel_rfl) (all_cons (by kernel_rfl) (all_cons (by kernel_rfl) (all_cons (by kernel_rfl) (all_cons (by kernel_rfl) (all_cons (by kernel_rfl) (all_cons (by kernel_rfl) (all_cons (by kernel_rfl) (all_cons (by kernel_rfl) (all_cons (by kernel_rfl) (all_cons (by kernel_rfl) (all_cons (by kernel_rfl) (all_cons (by kernel_rfl) (all_cons (by kernel_rfl) (all_cons (by kernel_rfl) (all_cons (by kernel_rfl) (all_cons (by kernel_rfl) (all_cons (by kernel_rfl) (all_cons (by kernel_rfl) (all_cons (by kernel_rfl) (all_cons (by kernel_rfl) (all_cons (by kernel_rfl) (all_cons (by kernel_rfl) (all_cons (by kernel_rfl) (all_cons (by kernel_rfl) (all_cons (by kernel_rfl) (all_cons (by kernel_rfl) (all_cons (by kernel_rfl) (all_cons (by kernel_rfl) (all_cons (by kernel_rfl) (all_cons (by kernel_rfl) (all_cons (by kernel_rfl) (all_cons (by kernel_rfl) (all_cons (by kernel_rfl) (all_cons (by kernel_rfl) (all_cons (by kernel_rfl) (all_cons (by kernel_rfl) (all_cons (by kernel_rfl) (all_cons (by kernel_rfl) (all_cons (by kernel_rfl) (all_cons (by kernel_rfl) (all_cons (by kernel_rfl) (all_cons (by kernel_rfl) (all_cons (by kernel_rfl) (all_cons (by kernel_rfl) (all_cons (by kernel_rfl) (all_cons (by kernel_rfl) (all_cons (by kernel_rfl) (all_cons (by kernel_rfl) (all_cons (by kernel_rfl) (all_cons (by kernel_rfl) (all_cons (by kernel_rfl) (all_cons (by kernel_rfl) (all_cons (by kernel_rfl) (all_cons (by kernel_rfl) (all_cons (by kernel_rfl) (all_cons (by kernel_rfl) (all_cons (by kernel_rfl) (all_cons (by kernel_rfl) (all_cons (by kernel_rfl) (all_cons (by kernel_rfl) (all_cons (by kernel_rfl) (all_cons (by kernel_rfl) (all_cons (by kernel_rfl) (all_cons (by kernel_rfl) (all_cons (by kernel_rfl) (all_cons (by kernel_rfl) (all_cons (by kernel_rfl) (all_cons (by kernel_rfl) (all_cons (by kernel_rfl) (all_cons (by kernel_rfl) (all_cons (by kernel_rfl) (all_cons (by kernel_rfl) (all_cons (by kernel_rfl) (all_cons (by kernel_rfl) (all_cons (by kernel_rfl) (all_cons (by kernel_rfl) (all_cons (by kernel_rfl) (all_cons (by kernel_rfl) (all_cons (by kernel_rfl) (all_cons (by kernel_rfl) (all_cons (by kernel_rfl) (all_cons (by kernel_rfl) (all_cons (by kernel_rfl) (all_cons (by kernel_rfl) (all_cons (by kernel_rfl) (all_cons (by kernel_rfl) (all_cons (by kernel_rfl) (all_cons (by kernel_rfl) (all_cons (by kernel_rfl) (all_cons (by kernel_rfl) (all_cons (by kernel_rfl) all_nil)))))))))))))))))))))))))))))))))))))))))))))))))))))))))))))))))))))))))))))))))))))))))))))))))))))))))))))))))))))))))))))))))))))))))))))))))))))))
theorem tok_bt : ∀ x ∈ tb_bt, buildT Try.prog x.1 = some x.2 :=
  all_cons (by kernel_rfl) (all_cons (by kernel_rfl) (all_cons (by kernel_rfl) (all_cons (by kernel_rfl) (all_cons (by kernel_rfl) (all_cons (by kernel_rfl) (all_cons (by kernel_rfl) (all_cons (by kernel_rfl) (all_cons (by kernel_rfl) (all_cons (by kernel_rfl) (all_cons (by kernel_rfl) (all_cons (by kernel_rfl) (all_cons (by kernel_rfl) (all_cons (by kernel_rfl) (all_cons (by kernel_rfl) (all_cons (by kernel_rfl) (all_cons (by kernel_rfl) (all_cons (by kernel_rfl) (all_cons (by kernel_rfl) (all_cons (by kernel_rfl) (all_cons (by kernel_rfl) (all_cons (by kernel_rfl) (all_cons (by kernel_rfl) (all_cons (by kernel_rfl) (all_cons (by kernel_rfl) (all_cons (by kernel_rfl) (all_cons (by kernel_rfl) (all_cons (by kernel_rfl) (all_cons (by kernel_rfl) (all_cons (by kernel_rfl) all_nil)))))))))))))))))))))))))))))
theorem tok_ss : ∀ x ∈ tb_ss, strStruct Try.prog x.1 = some x.2 :=
  all_cons (by kernel_rfl) (all_cons (by kernel_rfl) (all_cons (by kernel_rfl) (all_cons (by kernel_rfl) (all_cons (by kernel_rfl) (all_cons (by kernel_rfl) all_nil)))))
theorem tok_cl : ∀ x ∈ tb_cl, callable Try.prog x.1 = true :=
  all_cons (by kernel_rfl) (all_cons (by kernel_rfl) (all_cons (by kernel_rfl) (all_cons (by kernel_rfl) (all_cons (by kernel_rfl) (all_cons (by kernel_rfl) (all_cons (by kernel_rfl) (all_cons (by kernel_rfl) (all_cons (by kernel_rfl) (all_cons (by kernel_rfl) (all_cons (by kernel_rfl) (all_cons (by kernel_rfl) (all_cons (by kernel_rfl) (all_cons (by kernel_rfl) (all_cons (by kernel_rfl) (all_cons (by kernel_rfl) (all_cons (by kernel_rfl) (all_cons (by kernel_rfl) (all_cons (by kernel_rfl) (all_cons (by kernel_rfl) (all_cons (by kernel_rfl) (all_cons (by kernel_rfl) (all_cons (by kernel_rfl) (all_cons (by kernel_rfl) (all_cons (by kernel_rfl) (all_cons (by kernel_rfl) (all_cons (by kernel_rfl) (all_cons (by kernel_rfl) (all_cons (by kernel_rfl) (all_cons (by kernel_rfl) (all_cons (by kernel_rfl) (all_cons (by kernel_rfl) (all_cons (by kernel_rfl) (all_cons (by kernel_rfl) (all_cons (by kernel_rfl) (all_cons (by kernel_rfl) (all_cons (by kernel_rfl) (all_cons (by kernel_rfl) (all_cons (by kernel_rfl) (all_cons (by kernel_rfl) (all_cons (by kernel_rfl) (all_cons (by kernel_rfl) (all_cons (by kernel_rfl) (all_cons (by kernel_rfl) (all_cons (by kernel_rfl) (all_cons (by kernel_rfl) (all_cons (by kernel_rfl) (all_cons (by kernel_rfl) (all_cons (by kernel_rfl) (all_cons (by kernel_rfl) (all_cons (by kernel_rfl) (all_cons (by kernel_rfl) (all_cons (by kernel_rfl) (all_cons (by kernel_rfl) (all_cons (by kernel_rfl) (all_cons (by kernel_rfl) (all_cons (by kernel_rfl) (all_cons (by kernel_rfl) (all_cons (by kernel_rfl) (all_cons (by kernel_rfl) (all_cons (by kernel_rfl) (all_cons (by kernel_rfl) (all_cons (by kernel_rfl) (all_cons (by kernel_rfl) (all_cons (by kernel_rfl) (all_cons (by kernel_rfl) (all_cons (by kernel_rfl) (all_cons (by kernel_rfl) (all_cons (by kernel_rfl) (all_cons (by kernel_rfl) (all_cons (by kernel_rfl) (all_cons (by kernel_rfl) (all_cons (by kernel_rfl) (all_cons (by kernel_rfl) (all_cons (by kernel_rfl) (all_cons (by kernel_rfl) (all_cons (by kernel_rfl) (all_cons (by kernel_rfl) (all_cons (by kernel_rfl) (all_cons (by kernel_rfl) (all_cons (by kernel_rfl) (all_cons (by kernel_rfl) (all_cons (by kernel_rfl) (all_cons (by kernel_rfl) (all_cons (by kernel_rfl) (all_cons (by kernel_rfl) (all_cons (by kernel_rfl) (all_cons (by kernel_rfl) (all_cons (by kernel_rfl) (all_cons (by kernel_rfl) (all_cons (by kernel_rfl) (all_cons (by kernel_rfl) (all_cons (by kernel_rfl) (all_cons (by kernel_rfl) (all_cons (by kernel_rfl) (all_cons (by kernel_rfl) (all_cons (by kernel_rfl) (all_cons (by kernel_rfl) (all_cons (by kernel_rfl) (all_cons (by kernel_rfl) (all_cons (by kernel_rfl) (all_cons (by kernel_rfl) (all_cons (by kernel_rfl) (all_cons (by kernel_rfl) (all_cons (by kernel_rfl) (all_cons (by kernel_rfl) all_nil)))))))))))))))))))))))))))))))))))))))))))))))))))))))))))))))))))))))))))))))))))))))))))))))))))))))))
theorem tok_by : ∀ x ∈ tb_by, byteT Try.prog x.1 = some x.2 :=
  all_cons (by kernel_rfl) all_nil
theorem tok_pt : ∀ x ∈ tb_pt, ptrT Try.prog x.1 = true :=
  all_cons (by kernel_rfl) (all_cons (by kernel_rfl) (all_cons (by kernel_rfl) (all_cons (by kernel_rfl) (all_cons (by kernel_rfl) (all_cons (by kernel_rfl) (all_cons (by kernel_rfl) all_nil))))))
def tb_cv : List (Nat × List (Nat × (Nat × Nat))) := [(74, [(120, (77, 2))]), (120, [(74, (77, 2))])]
theorem bsize : ∃ j, Try.prog.info? 77 = some j ∧ j.size = 2 := Option.map_eq_some_iff.1 (show (Try.prog.info? 77).map (·.size) = some 2 by kernel_rfl)
theorem tok_cv : ∀ x ∈ tb_cv, ∀ y ∈ x.2, CvOk Try.prog x.1 y.1 y.2.1 y.2.2 := all_cons (all_cons (fun w b h => by obtain ⟨j, h1, h2⟩ := bsize; exact Lib.run_to_unsafe w ⟨b, 0, none⟩ Try.underlying74 Try.underlying120 h1 (by omega) h (Nat.zero_lt_succ 1)) all_nil) (all_cons (all_cons (fun w b h => by obtain ⟨j, h1, h2⟩ := bsize; exact Lib.run_from_unsafe w ⟨b, 0, none⟩ Try.underlying120 Try.underlying74 h1 h (by kernel_rfl)) all_nil) all_nil)
def tb_ei : List (Nat × Unit) := [(83, ())]
theorem tok_ei : ∀ x ∈ tb_ei, IdFn Try.prog x.1 := all_cons (fun v w => by rw [run_callFunc_extern Try.func83 (by kernel_rfl) (by kernel_rfl) (by kernel_rfl) (e := Extern.AbiNoEscape.same) (by kernel_rfl), Lib.run_noEscape]; rfl) all_nil
def tab : Tab := mkTab tb_ld tb_fo tb_el tb_ap tb_kd tb_zb tb_zd tb_bt tb_ss tb_cl tb_by tb_cv tb_ei tb_pt
theorem tabOk : TabOk Try.prog tab := mkTab_ok tok_ld tok_fo tok_el tok_ap tok_kd tok_zb tok_zd tok_bt tok_ss tok_cl tok_by tok_cv tok_ei tok_pt (by kernel_rfl)
end Go.Proofs.Nw.K
end
section
/- B1: strings.Builder: what its methods do to a builder of one's own. -/
open Go Go.RowKit Go.Proofs
set_option linter.unusedVariables false
set_option linter.unusedSimpArgs false
namespace Go.Proofs.Nw.K

theorem copyCheck_eff {st : List AO} {s : Nat} {a h : AV} (hst : st[s]? = some (.box 77 [a, h])) (ha : a = .sc (.pointer none) ∨ a = .ptr s 0) :
    Eff Try.prog 64 [.ptr s 0] st [] (st.set s (.box 77 [.ptr s 0, h])) := by
  have hlt : s < st.length := (List.getElem?_eq_some_iff.1 hst).1
  have hd : ∀ k : Nat, k < 20 → ∀ d, some k = some d → d < 20 := fun k hk d e => by cases e; exact hk
  have hn : ∀ d, none = some d → d < 20 := fun d e => by cases e
  refine eff_vc0 Try.func64 rfl rfl (by exact Nat.le_of_ble_eq_true rfl) ?_
  refine WP_seq (WP_region ?_)
  refine WPL_op (op_move (.tmp 0)) (hd 2 (by decide)) ?_
  refine WPL_op (op_nilCheck_ptr (.tmp 2) s 0 rfl) (hd 3 (by decide)) ?_
  refine WPL_op (op_fieldAddr_ptr 77 (.tmp 3) 0 s 0 0 (tabOk.fo _ _ _ rfl) rfl) (hd 4 (by decide)) ?_
  refine WPL_op (op_load_ptr1 74 (.tmp 4) 1 s 0 a _ (tabOk.ld _ _ rfl) rfl hst rfl) (hd 5 (by decide)) ?_
  rcases ha with rfl | rfl
  · refine WPL_op (op_peql_nils 74 _ (.tmp 5) _ (tabOk.pt _ rfl) rfl rfl) (hd 6 (by decide)) (WPL_nil ?_)
    refine WP_cond_t rfl (WP_region ?_)
    refine WPL_op (op_move (.tmp 0)) (hd 7 (by decide)) ?_
    refine WPL_op (op_move (.tmp 0)) (hd 8 (by decide)) ?_
    refine WPL_op (op_convert_ptr 74 120 (.tmp 8) s 77 _ rfl hst (tabOk.cv 74 120 77 2 rfl)) (hd 9 (by decide)) ?_
    refine WPL_op (op_call_id (.func 83) (.tmp 9) 83 _ rfl (tabOk.ei 83 rfl)) (hd 10 (by decide)) ?_
    refine WPL_op (op_convert_ptr 120 74 (.tmp 10) s 77 _ rfl hst (tabOk.cv 120 74 77 2 rfl)) (hd 11 (by decide)) ?_
    refine WPL_op (op_nilCheck_ptr (.tmp 7) s 0 rfl) (hd 12 (by decide)) ?_
    refine WPL_op (op_fieldAddr_ptr 77 (.tmp 12) 0 s 0 0 (tabOk.fo _ _ _ rfl) rfl) (hd 13 (by decide)) ?_
    refine WPL_op (op_store_ptr1 74 (.tmp 13) (.tmp 11) s 0 (.ptr s 0) _ (tabOk.ld _ _ rfl) rfl rfl hst rfl (by simp)) hn (WPL_nil ?_)
    exact ⟨rfl, [], rfl, trivial⟩
  · refine WPL_op (op_peql_nil 74 _ (.tmp 5) _ s 0 (tabOk.pt _ rfl) rfl rfl) (hd 6 (by decide)) (WPL_nil ?_)
    refine WP_cond_f rfl (WP_seq (WP_region ?_))
    refine WPL_op (op_move (.tmp 0)) (hd 14 (by decide)) ?_
    refine WPL_op (op_nilCheck_ptr (.tmp 14) s 0 rfl) (hd 15 (by decide)) ?_
    refine WPL_op (op_fieldAddr_ptr 77 (.tmp 15) 0 s 0 0 (tabOk.fo _ _ _ rfl) rfl) (hd 16 (by decide)) ?_
    refine WPL_op (op_load_ptr1 74 (.tmp 16) 1 s 0 (.ptr s 0) _ (tabOk.ld _ _ rfl) rfl hst rfl) (hd 17 (by decide)) ?_
    refine WPL_op (op_move (.tmp 0)) (hd 18 (by decide)) ?_
    refine WPL_op (op_pneq_same 74 _ (.tmp 17) (.tmp 18) s 0 (tabOk.pt _ rfl) rfl rfl) (hd 19 (by decide)) (WPL_nil ?_)
    refine WP_cond_f rfl (WP_skip ?_)
    refine ⟨?_, [], rfl, trivial⟩
    rw [← List.getElem?_eq_some_iff.1 hst |>.2]
    simp

/-- a builder that holds these bytes -/
inductive BuilderOf (st : List AO) (s : Nat) : List (List D) → Prop
  | new {a : AV} (h : st[s]? = some (.box 77 [a, .nils])) (ha : a = .sc (.pointer none) ∨ a = .ptr s 0) : BuilderOf st s []
  | used {r k : Nat} {xs : List (List D)} (h : st[s]? = some (.box 77 [.ptr s 0, .h r k 0 xs.length])) (hr : st[r]? = some (.row k 5 1 xs)) : BuilderOf st s xs

theorem write_new {st : List AO} {s : Nat} {a : AV} (hst : st[s]? = some (.box 77 [a, .nils])) (ha : a = .sc (.pointer none) ∨ a = .ptr s 0) (x : ByteArray) (hx : x.size ≤ 140737488351232) :
    Eff Try.prog 39 [.ptr s 0, .str x] st [.one (.sc (.int .i64 x.size)), .one (.sc .nilIface)] (st.set s (.box 77 [.ptr s 0, .h st.length 0 0 x.size]) ++ [.row 0 5 1 (strRows x)]) := by
  have hlt : s < st.length := (List.getElem?_eq_some_iff.1 hst).1
  have hd : ∀ k : Nat, k < 19 → ∀ d, some k = some d → d < 19 := fun k hk d e => by cases e; exact hk
  have hn : ∀ d, none = some d → d < 19 := fun d e => by cases e
  have hst' : (st.set s (.box 77 [.ptr s 0, .nils]))[s]? = some (.box 77 [.ptr s 0, .nils]) := by simp [hlt]
  refine eff_vc0 Try.func39 rfl rfl (by exact Nat.le_of_ble_eq_true rfl) ?_
  refine WP_seq (WP_region ?_)
  refine WPL_op (op_assign _) (hd 4 (by decide)) ?_
  refine WPL_op (op_assign _) (hd 5 (by decide)) (WPL_nil ?_)
  refine WP_seq (WP_region ?_)
  refine WPL_op (op_move (.tmp 0)) (hd 6 (by decide)) ?_
  refine WPL_op (op_calleff (.func 64) 64 _ _ [.ptr s 0] [] _ rfl (tabOk.cl _ rfl) rfl (copyCheck_eff hst ha)) (hd 7 (by decide)) (WPL_nil ?_)
  refine WP_seq (WP_region ?_)
  refine WPL_op (op_move (.tmp 0)) (hd 8 (by decide)) ?_
  refine WPL_op (op_move (.tmp 0)) (hd 9 (by decide)) ?_
  refine WPL_op (op_nilCheck_ptr (.tmp 9) s 0 rfl) (hd 10 (by decide)) ?_
  refine WPL_op (op_fieldAddr_ptr 77 (.tmp 10) 1 s 0 1 (tabOk.fo _ _ _ rfl) rfl) (hd 11 (by decide)) ?_
  refine WPL_op (op_load_ptr1 75 (.tmp 11) 1 s 1 .nils _ (tabOk.ld _ _ rfl) rfl hst' rfl) (hd 12 (by decide)) ?_
  refine WPL_op (op_move (.tmp 1)) (hd 13 (by decide)) ?_
  refine WPL_op (op_appendS_nils 75 9 5 (.tmp 12) (.tmp 13) x (tabOk.bb _ _ rfl) (tabOk.kstr _ rfl) rfl rfl hx) (hd 14 (by decide)) ?_
  refine WPL_op (op_nilCheck_ptr (.tmp 8) s 0 rfl) (hd 15 (by decide)) ?_
  refine WPL_op (op_fieldAddr_ptr 77 (.tmp 15) 1 s 0 1 (tabOk.fo _ _ _ rfl) rfl) (hd 16 (by decide)) ?_
  have hst2 : (st.set s (.box 77 [.ptr s 0, .nils]) ++ [AO.row 0 5 1 (strRows x)])[s]? = some (.box 77 [.ptr s 0, .nils]) := by
    rw [List.getElem?_append_left (by simpa using hlt)]; exact hst'
  refine WPL_op (op_store_ptr1 75 (.tmp 16) (.tmp 14) s 1 (.h (st.set s (.box 77 [.ptr s 0, .nils])).length 0 0 (strRows x).length) _ (tabOk.ld _ _ rfl) rfl rfl hst2 ?_ (by simp)) hn (WPL_nil ?_)
  · simp [okSingle]
  refine WP_seq (WP_region ?_)
  refine WPL_op (op_move (.tmp 1)) (hd 17 (by decide)) ?_
  refine WPL_op (op_len 9 (.tmp 17) x.size (.str (tabOk.kstr _ rfl))) (hd 18 (by decide)) ?_
  refine WPL_op (op_assign _) (hd 4 (by decide)) ?_
  refine WPL_op (op_assign _) (hd 5 (by decide)) (WPL_nil ?_)
  refine WP_ret ⟨?_, _, rfl, AsLe.refl _⟩
  rw [strRows_length, List.set_append_left _ _ (by simpa using hlt), List.length_set, List.set_set]
  rfl

theorem write_used {st : List AO} {s r k : Nat} {xs : List (List D)} (hst : st[s]? = some (.box 77 [.ptr s 0, .h r k 0 xs.length])) (hr : st[r]? = some (.row k 5 1 xs)) (x : ByteArray) (hx : xs.length + x.size ≤ 140737488351232) :
    Eff Try.prog 39 [.ptr s 0, .str x] st [.one (.sc (.int .i64 x.size)), .one (.sc .nilIface)] ((st.set r (.row (k + 1) 5 1 (xs ++ strRows x))).set s (.box 77 [.ptr s 0, .h r (k + 1) 0 (xs.length + x.size)])) := by
  have hlt : s < st.length := (List.getElem?_eq_some_iff.1 hst).1
  have hltr : r < st.length := (List.getElem?_eq_some_iff.1 hr).1
  have hne : r ≠ s := fun e => by subst e; rw [hst] at hr; cases hr
  have hd : ∀ k : Nat, k < 19 → ∀ d, some k = some d → d < 19 := fun k hk d e => by cases e; exact hk
  have hn : ∀ d, none = some d → d < 19 := fun d e => by cases e
  have hcc := copyCheck_eff hst (.inr rfl)
  have hself : st.set s (.box 77 [.ptr s 0, .h r k 0 xs.length]) = st := by
    conv => rhs; rw [← List.set_getElem_self hlt]
    rw [← (List.getElem?_eq_some_iff.1 hst).2]
  rw [hself] at hcc
  refine eff_vc0 Try.func39 rfl rfl (by exact Nat.le_of_ble_eq_true rfl) ?_
  refine WP_seq (WP_region ?_)
  refine WPL_op (op_assign _) (hd 4 (by decide)) ?_
  refine WPL_op (op_assign _) (hd 5 (by decide)) (WPL_nil ?_)
  refine WP_seq (WP_region ?_)
  refine WPL_op (op_move (.tmp 0)) (hd 6 (by decide)) ?_
  refine WPL_op (op_calleff (.func 64) 64 _ _ [.ptr s 0] [] _ rfl (tabOk.cl _ rfl) rfl hcc) (hd 7 (by decide)) (WPL_nil ?_)
  refine WP_seq (WP_region ?_)
  refine WPL_op (op_move (.tmp 0)) (hd 8 (by decide)) ?_
  refine WPL_op (op_move (.tmp 0)) (hd 9 (by decide)) ?_
  refine WPL_op (op_nilCheck_ptr (.tmp 9) s 0 rfl) (hd 10 (by decide)) ?_
  refine WPL_op (op_fieldAddr_ptr 77 (.tmp 10) 1 s 0 1 (tabOk.fo _ _ _ rfl) rfl) (hd 11 (by decide)) ?_
  refine WPL_op (op_load_ptr1 75 (.tmp 11) 1 s 1 (.h r k 0 xs.length) _ (tabOk.ld _ _ rfl) rfl hst rfl) (hd 12 (by decide)) ?_
  refine WPL_op (op_move (.tmp 1)) (hd 13 (by decide)) ?_
  refine WPL_op (op_appendS_h 75 9 5 (.tmp 12) (.tmp 13) x r k xs.length xs (tabOk.bb _ _ rfl) (tabOk.kstr _ rfl) rfl hr rfl hx) (hd 14 (by decide)) ?_
  refine WPL_op (op_nilCheck_ptr (.tmp 8) s 0 rfl) (hd 15 (by decide)) ?_
  refine WPL_op (op_fieldAddr_ptr 77 (.tmp 15) 1 s 0 1 (tabOk.fo _ _ _ rfl) rfl) (hd 16 (by decide)) ?_
  have hst2 : (st.set r (.row (k + 1) 5 1 (xs.take xs.length ++ strRows x)))[s]? = some (.box 77 [.ptr s 0, .h r k 0 xs.length]) := by
    rw [List.getElem?_set_ne hne]; exact hst
  refine WPL_op (op_store_ptr1 75 (.tmp 16) (.tmp 14) s 1 (.h r (k + 1) 0 (xs.length + (strRows x).length)) _ (tabOk.ld _ _ rfl) rfl rfl hst2 ?_ (by simp)) hn (WPL_nil ?_)
  · simp [okSingle, hltr]
  refine WP_seq (WP_region ?_)
  refine WPL_op (op_move (.tmp 1)) (hd 17 (by decide)) ?_
  refine WPL_op (op_len 9 (.tmp 17) x.size (.str (tabOk.kstr _ rfl))) (hd 18 (by decide)) ?_
  refine WPL_op (op_assign _) (hd 4 (by decide)) ?_
  refine WPL_op (op_assign _) (hd 5 (by decide)) (WPL_nil ?_)
  refine WP_ret ⟨?_, _, rfl, AsLe.refl _⟩
  rw [strRows_length, List.take_length]
  rfl

end Go.Proofs.Nw.K
end
section
/- B2: strings.Builder's String, at a builder that holds bytes: the world behind it. (The walk's lines: turned from the shelf's own proof.) -/
set_option linter.unusedVariables false
namespace Go.Proofs.Nw.K
open Go Go.Proofs Go.Shelf Go.RowKit
variable {P : Program} {ρ : Ren}
set_option maxHeartbeats 2000000 in
set_option maxRecDepth 100000 in
theorem String_at (L : Lays.n169 P ρ) (X : Builder.Extra P ρ) (b g cap : Nat) (cur : Array Value) (p : Value) (l : List UInt8) (w : World) (hbk : w.heap[b]? = some (.cells #[p, .slice (some ⟨g, 0, none⟩) l.length cap] (ρ.t 72) (0, 0)))
    (hg : w.heap[g]? = some (.cells cur (ρ.t 5) (0, 0))) (hnc : l.length ≤ cap) (hcm : cap ≤ maxLen) (hcs : cur.size = cap) (hcell : ∀ j x, l[j]? = some x → w.cell? ⟨g, j, none⟩ = some (.int .u8 x.toNat)) (h0 : l ≠ []) :
    Calls P (ρ.f 169) #[.pointer (some ⟨b, 0, none⟩)] w fun e w' => e = .returned (.string ⟨l.toArray⟩) ∧ w' = w.drew.freeze ⟨g, 0, none⟩ l.length := by
  have hl0 : l.length ≠ 0 := by simpa using h0
  have c1 : w.drew.cell? ⟨b, 1, none⟩ = some (.slice (some ⟨g, 0, none⟩) l.length cap) := by
    have : w.drew.heap[b]? = some (.cells #[p, .slice (some ⟨g, 0, none⟩) l.length cap] (ρ.t 72) (0, 0)) := hbk
    rw [Lib.cell_of_heap this]; rfl
  have hSD : (Builtin.unsafeSliceData_ #[(ρ.t 37)] (ρ.t 127) #[.slice (some ⟨g, 0, none⟩) l.length cap]).run P w.drew = .ok (.pointer (some ⟨g, 0, none⟩)) w.drew :=
    Lib.run_unsafeSliceData_row _ _ _ _ _ _ (by omega)
  have hUS : (Builtin.unsafeString_ #[(ρ.t 127), (ρ.t 3)] (ρ.t 9) #[.pointer (some ⟨g, 0, none⟩), .int .i64 l.length]).run P w.drew = .ok (.string ⟨l.toArray⟩) (w.drew.freeze ⟨g, 0, none⟩ l.length) := by
    refine Lib.run_unsafeString_row w.drew (ρ.t 127) (ρ.t 3) (ρ.t 9) (ρ.t 5) L.t127 X.cellsByte g cur.size (by have hg' : w.drew.heap[g]? = some (.cells cur (ρ.t 5) (0, 0)) := hg; simp [World.shape?, hg']) l h0 (by omega) (by unfold maxLen at hcm; omega) ?_
    intro j x hx
    have := hcell j x hx
    have e1 : (⟨g, 0, none⟩ : Addr).add j = ⟨g, j, none⟩ := by cases j <;> simp [Addr.add]
    rw [e1]
    exact this
  have mixed := L.mixed
  have t72 := L.t72; have a72 := L.a72; have z72 := L.z72; have v72 := L.v72; have u72 := run_underlying L.t72
  have t70 := L.t70; have a70 := L.a70; have z70 := L.z70; have v70 := L.v70; have u70 := run_underlying L.t70
  have t37 := L.t37; have a37 := L.a37; have z37 := L.z37; have v37 := L.v37; have u37 := run_underlying L.t37
  have t127 := L.t127; have a127 := L.a127; have z127 := L.z127; have v127 := L.v127; have u127 := run_underlying L.t127
  have t3 := L.t3; have a3 := L.a3; have z3 := L.z3; have v3 := L.v3; have u3 := run_underlying L.t3
  have t9 := L.t9; have a9 := L.a9; have z9 := L.z9; have v9 := L.v9; have u9 := run_underlying L.t9
  have t5 := X.t5; have a5 := X.a5; have z5 := X.z5; have v5 := X.v5; have u5 := run_underlying X.t5
  clear hcell hcs hcm hnc
  go_enter L.f169, Body.n169_ntmps ρ
  go_wp2
  go_region_o
  all_goals (go_wp2; go_ret; exact ⟨rfl, rfl⟩)
end Go.Proofs.Nw.K
end
