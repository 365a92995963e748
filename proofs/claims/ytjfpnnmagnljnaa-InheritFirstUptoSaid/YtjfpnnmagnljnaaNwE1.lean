/- E1: the program's data, as Lean types. -/
import Derived.Test.YtjfpnnmagnljnaaNwK19
open Go Go.RowKit
set_option linter.unusedVariables false
namespace Go.Proofs.Nw.K

abbrev Str := ByteArray
structure Excluded where
  group : Str
  name : Str
structure Dep where
  group : Str
  name : Str
  version : Str
  type : Str
  classifier : Str
  scope : Str
  optional : Bool
  excluded : List Excluded
structure Coord where
  group : Str
  name : Str
  version : Str
structure Pair where
  name : Str
  value : Str
structure Pom where
  parent : Coord
  group : Str
  name : Str
  version : Str
  packaging : Str
  props : List Pair
  managed : List Dep
  deps : List Dep
structure Item where
  coord : Coord
  text : Str
structure Found where
  parent : Int
  index : Int
  dep : Dep
  kind : Int
structure Resolved where
  root : Coord
  nodes : List Found

abbrev dstr (s : Str) : D := .sc (.string s)
abbrev dint (n : Int) : D := .sc (.int .i64 n)
abbrev dbool (b : Bool) : D := .sc (.bool b)
def emp : Str := ⟨#[]⟩
def encExcluded (x : Excluded) : List D := [dstr x.group, dstr x.name]
def zExcluded : Excluded := ⟨emp, emp⟩
abbrev dExcludeds (l : List Excluded) : D := .tl Excluded 2 encExcluded zExcluded l
def encDep (d : Dep) : List D := [dstr d.group, dstr d.name, dstr d.version, dstr d.type, dstr d.classifier, dstr d.scope, dbool d.optional, dExcludeds d.excluded]
def zDep : Dep := ⟨emp, emp, emp, emp, emp, emp, false, []⟩
abbrev dDeps (l : List Dep) : D := .tl Dep 8 encDep zDep l
def encCoord (c : Coord) : List D := [dstr c.group, dstr c.name, dstr c.version]
def zCoord : Coord := ⟨emp, emp, emp⟩
def encPair (c : Pair) : List D := [dstr c.name, dstr c.value]
def zPair : Pair := ⟨emp, emp⟩
abbrev dPairs (l : List Pair) : D := .tl Pair 2 encPair zPair l
def encPom (p : Pom) : List D := [dstr p.parent.group, dstr p.parent.name, dstr p.parent.version, dstr p.group, dstr p.name, dstr p.version, dstr p.packaging, dPairs p.props, dDeps p.managed, dDeps p.deps]
def zPom : Pom := ⟨zCoord, emp, emp, emp, emp, [], [], []⟩
abbrev dPoms (l : List Pom) : D := .tl Pom 10 encPom zPom l
def encItem (i : Item) : List D := [dstr i.coord.group, dstr i.coord.name, dstr i.coord.version, dstr i.text]
def zItem : Item := ⟨zCoord, emp⟩
abbrev dItems (l : List Item) : D := .tl Item 4 encItem zItem l
def encFound (f : Found) : List D := [dint f.parent, dint f.index, dstr f.dep.group, dstr f.dep.name, dstr f.dep.version, dstr f.dep.type, dstr f.dep.classifier, dstr f.dep.scope, dbool f.dep.optional, dExcludeds f.dep.excluded, dint f.kind]
def zFound : Found := ⟨0, 0, zDep, 0⟩
abbrev dFounds (l : List Found) : D := .tl Found 11 encFound zFound l
def encResolved (r : Resolved) : List D := [dstr r.root.group, dstr r.root.name, dstr r.root.version, dFounds r.nodes]
abbrev encStr (s : Str) : List D := [dstr s]
abbrev dStrs (l : List Str) : D := .tl Str 1 encStr emp l
abbrev encInt (n : Int) : List D := [dint n]
abbrev dInts (l : List Int) : D := .tl Int 1 encInt 0 l

def isInt (n : Int) : Prop := -9223372036854775808 ≤ n ∧ n ≤ 9223372036854775807

/- weights: as a reading counts them, or less -/
def Excluded.wt (x : Excluded) : Nat := x.group.size + x.name.size + 3
def Dep.wt (d : Dep) : Nat := d.group.size + d.name.size + d.version.size + d.type.size + d.classifier.size + d.scope.size + (d.excluded.map Excluded.wt).sum + 9
def Coord.wt (c : Coord) : Nat := c.group.size + c.name.size + c.version.size + 4
def Pair.wt (c : Pair) : Nat := c.name.size + c.value.size + 3
def Pom.wt (p : Pom) : Nat := p.parent.wt + p.group.size + p.name.size + p.version.size + p.packaging.size + (p.props.map Pair.wt).sum + (p.managed.map Dep.wt).sum + (p.deps.map Dep.wt).sum + 8
def Item.wt (i : Item) : Nat := i.coord.wt + i.text.size + 2
def Found.wt (f : Found) : Nat := f.dep.wt + 4
def Resolved.wt (r : Resolved) : Nat := r.root.wt + (r.nodes.map Found.wt).sum + 2

def Found.Ok (f : Found) : Prop := isInt f.parent ∧ isInt f.index ∧ isInt f.kind
def Resolved.Ok (r : Resolved) : Prop := ∀ f ∈ r.nodes, f.Ok

theorem isInt_of {n : Int} (h : (Lit.int .i64 n).wf = true) : isInt n := by
  have h' : IntKind.min .i64 ≤ n ∧ n ≤ IntKind.max .i64 := by simpa [Lit.wf] using h
  simpa [isInt, IntKind.min, IntKind.max, IntKind.signed, IntKind.bits] using h'

end Go.Proofs.Nw.K
