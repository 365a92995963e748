/- S1: strings, as values. -/
import Derived.Test.YtjfpnnmagnljnaaNwE1
import Derived.Lib.Join
import Derived.Laws.Closers25
open Go
set_option linter.unusedVariables false
set_option linter.unusedSimpArgs false
namespace Go.Proofs.Nw.K

theorem str_ext {a b : Str} (h : a.data.toList = b.data.toList) : a = b := by
  cases a; cases b; simp at h; subst h; rfl
theorem toList_inj {a b : Str} : a.toList = b.toList ↔ a = b := by
  rw [ByteArray.toList_eq, ByteArray.toList_eq]
  exact ⟨str_ext, fun h => by rw [h]⟩
theorem str_beq (a b : Str) : (a.toList == b.toList) = decide (a = b) := by
  by_cases h : a = b
  · subst h; simp
  · have : ¬ a.toList = b.toList := fun e => h (toList_inj.1 e)
    simp [h, this]
theorem str_app (a b : Str) : (a ++ b).data.toList = a.data.toList ++ b.data.toList := by simp
theorem str_size (a : Str) : a.size = a.data.toList.length := by simp only [Array.length_toList]; rfl
theorem app_assoc (a b c : Str) : a ++ b ++ c = a ++ (b ++ c) := str_ext (by simp)
theorem emp_app (a : Str) : emp ++ a = a := str_ext (by rw [str_app]; rfl)
theorem app_emp (a : Str) : a ++ emp = a := str_ext (by rw [str_app]; show a.data.toList ++ [] = _; simp)
theorem app_size (a b : Str) : (a ++ b).size = a.size + b.size := by simp
theorem sz_lit (a : Array UInt8) : (ByteArray.mk a).size = a.size := rfl
theorem app_inj_left {a b c : Str} : a ++ b = a ++ c ↔ b = c :=
  ⟨fun h => str_ext (by have := congrArg (fun s : Str => s.data.toList) h; simpa using this), fun h => by rw [h]⟩

def orOf : List Str → Str
  | [] => emp
  | s :: r => if s.toList == emp.toList then orOf r else s

def joinOf (l : List Str) (sep : Str) : Str := ⟨(Lib.join (l.map (·.data.toList)) sep.data.toList).toArray⟩
theorem join_cons (x y : Str) (l : List Str) (sep : Str) : joinOf (x :: y :: l) sep = x ++ sep ++ joinOf (y :: l) sep := by
  apply str_ext
  simp only [joinOf, str_app, Lib.join, List.map_cons]
  simp [List.intercalate]
theorem join_one (x : Str) (sep : Str) : joinOf [x] sep = x := by
  apply str_ext
  simp [joinOf, Lib.join_one]

def jar : Str := ⟨#[106, 97, 114]⟩
def colon : Str := ⟨#[58]⟩
def nl : Str := ⟨#[10]⟩
def tyOf (d : Dep) : Str := if d.type.toList == emp.toList then jar else d.type
def keyOf (d : Dep) : Str := d.group ++ colon ++ d.name ++ colon ++ tyOf d ++ colon ++ d.classifier
def lineOf (d : Dep) : Str :=
  (if d.classifier.toList == emp.toList then d.group ++ colon ++ d.name ++ colon ++ tyOf d else d.group ++ colon ++ d.name ++ colon ++ tyOf d ++ colon ++ d.classifier) ++ colon ++ d.version ++ colon ++ d.scope
def linesOf : List Dep → Str
  | [] => emp
  | d :: r => lineOf d ++ nl ++ linesOf r

theorem linesOf_append (a b : List Dep) : linesOf (a ++ b) = linesOf a ++ linesOf b := by
  induction a with
  | nil => simp [linesOf, emp_app]
  | cons d r ih => simp [linesOf, ih, app_assoc]

theorem tyOf_size (d : Dep) : (tyOf d).size ≤ d.type.size + 3 := by
  unfold tyOf; split
  · show 3 ≤ _; omega
  · omega
theorem lineOf_size (d : Dep) : (lineOf d).size ≤ d.wt + 3 := by
  have h := tyOf_size d
  have hc : colon.size = 1 := rfl
  unfold lineOf Dep.wt
  split <;> (simp only [app_size, hc]; omega)
theorem linesOf_size (l : List Dep) : (linesOf l).size ≤ (l.map Dep.wt).sum + 4 * l.length := by
  induction l with
  | nil => show 0 ≤ _; omega
  | cons d r ih =>
    have h := lineOf_size d
    have hn : nl.size = 1 := rfl
    simp only [linesOf, app_size, List.map_cons, List.sum_cons, List.length_cons, hn]
    omega
theorem wt_pos (d : Dep) : 9 ≤ d.wt := by unfold Dep.wt; omega
theorem len_le_wt (l : List Dep) : 9 * l.length ≤ (l.map Dep.wt).sum := by
  induction l with
  | nil => simp
  | cons d r ih => have := wt_pos d; simp; omega
end Go.Proofs.Nw.K
