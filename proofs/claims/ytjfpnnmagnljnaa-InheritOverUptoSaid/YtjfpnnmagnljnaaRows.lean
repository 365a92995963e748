/-
  No cell of these rows narrows 'for every input' (looked for: loops, veiled, ifaces, maps, wideKeys, modest, calm, conditions, laid).
  DERIVED. THE GIVEN ROWS OF THIS SEAT. 9 by the template 'for every input the law returns true; each argument reads behind the call as it read before'; 0 by the template 'total and deterministic' (their statements: YtjfpnnmagnljnaaTotals.lean).
  GIVEN WITH THE SEED: the statements are not yours to turn. If you find one false, say at which input.
  Laid BY PROGRAM, IN A SANDBOX (cutbox-rows.mjs): the forced cells as the released guide's own fill.sh prints them over the translation 209ff09a4c5e6f0b… (all of the seat's roots in one cut). By AI agents, Wed Nov 11 2026. No macro, syntax, notation, axiom, sorry.
-/
import Derived.Test.YtjfpnnmagnljnaaChecked
import GoSem.Claim
import GoSem.ClaimJoined
import GoSem.ClaimMapViews
import Derived.JoinedTies
import Derived.KernelRfl
namespace Go.Proofs.Ytjfpnnmagnljnaa
/- THE CELL 'sum', in the pinned program and in every row, IS THE sha256 OF THE DUMP (.gsa) THAT YtjfpnnmagnljnaaProg.lean LOADS. Nothing in Lean hashes anything: it is a label: what it is worth is what the hold of that sum in a sandbox is worth. -/
noncomputable def Try.pinned : Pinned := { name := "ytjfpnnmagnljnaa", sum := "209ff09a4c5e6f0b53aea611593c6d5131c4a57bfed5d3ce6c66276dca6ff517", checked := Try.checked }
namespace Rows
def none {H : Type} : Left H := { results := [], args := [] }

/-- 'newellaw24.ClasspathTells': WHATEVER THE INPUT: true; the input reads as it did. -/
def classpathTellsSpec : ChangeSpec := { name := "classpathTells", fn := fun _ => fun
  | [d1, d2, d3] => { results := [.lit (.bool true)], args := [d1, d2, d3] }
  | _ => none }
def classpathTellsRow : OpenClaim := { program := "ytjfpnnmagnljnaa", sum := "209ff09a4c5e6f0b53aea611593c6d5131c4a57bfed5d3ce6c66276dca6ff517", func := "newel/newellaw24.ClasspathTells", spec := "classpathTells", inPlace := ["internal/abi.NoEscape", "internal/bytealg.MakeNoZero"], unfollowed := true, recurses := true, apart := false }
def ClasspathTellsSaid : Prop := classpathTellsRow.holds Try.pinned (OpenSpec.ofChange classpathTellsSpec)

/-- ITS FALSE NEIGHBOUR: 'it returns false'. Refute it at one input. -/
def classpathTellsWrong : ChangeSpec := { name := "classpathTells", fn := fun _ => fun
  | [d1, d2, d3] => { results := [.lit (.bool false)], args := [d1, d2, d3] }
  | _ => none }
def ClasspathTellsWrongFalsely : Prop := classpathTellsRow.holds Try.pinned (OpenSpec.ofChange classpathTellsWrong)

/-- 'newellaw24.ClasspathScopes': WHATEVER THE INPUT: true; the input reads as it did. -/
def classpathScopesSpec : ChangeSpec := { name := "classpathScopes", fn := fun _ => fun
  | [d1, d2, d3] => { results := [.lit (.bool true)], args := [d1, d2, d3] }
  | _ => none }
def classpathScopesRow : OpenClaim := { program := "ytjfpnnmagnljnaa", sum := "209ff09a4c5e6f0b53aea611593c6d5131c4a57bfed5d3ce6c66276dca6ff517", func := "newel/newellaw24.ClasspathScopes", spec := "classpathScopes", inPlace := ["internal/abi.NoEscape", "internal/bytealg.MakeNoZero"], recurses := true, apart := false }
def ClasspathScopesSaid : Prop := classpathScopesRow.holds Try.pinned (OpenSpec.ofChange classpathScopesSpec)

/-- ITS FALSE NEIGHBOUR: 'it returns false'. Refute it at one input. -/
def classpathScopesWrong : ChangeSpec := { name := "classpathScopes", fn := fun _ => fun
  | [d1, d2, d3] => { results := [.lit (.bool false)], args := [d1, d2, d3] }
  | _ => none }
def ClasspathScopesWrongFalsely : Prop := classpathScopesRow.holds Try.pinned (OpenSpec.ofChange classpathScopesWrong)

/-- 'newellaw24.ClasspathLines': WHATEVER THE INPUT: true; the input reads as it did. -/
def classpathLinesSpec : ChangeSpec := { name := "classpathLines", fn := fun _ => fun
  | [d1, d2, d3] => { results := [.lit (.bool true)], args := [d1, d2, d3] }
  | _ => none }
def classpathLinesRow : OpenClaim := { program := "ytjfpnnmagnljnaa", sum := "209ff09a4c5e6f0b53aea611593c6d5131c4a57bfed5d3ce6c66276dca6ff517", func := "newel/newellaw24.ClasspathLines", spec := "classpathLines", inPlace := ["internal/abi.NoEscape", "internal/bytealg.MakeNoZero"], apart := false }
def ClasspathLinesSaid : Prop := classpathLinesRow.holds Try.pinned (OpenSpec.ofChange classpathLinesSpec)

/-- ITS FALSE NEIGHBOUR: 'it returns false'. Refute it at one input. -/
def classpathLinesWrong : ChangeSpec := { name := "classpathLines", fn := fun _ => fun
  | [d1, d2, d3] => { results := [.lit (.bool false)], args := [d1, d2, d3] }
  | _ => none }
def ClasspathLinesWrongFalsely : Prop := classpathLinesRow.holds Try.pinned (OpenSpec.ofChange classpathLinesWrong)

/-- 'newellaw25.VerboseLines': WHATEVER THE INPUT: true; the input reads as it did. -/
def verboseLinesSpec : ChangeSpec := { name := "verboseLines", fn := fun _ => fun
  | [d1, d2] => { results := [.lit (.bool true)], args := [d1, d2] }
  | _ => none }
def verboseLinesRow : OpenClaim := { program := "ytjfpnnmagnljnaa", sum := "209ff09a4c5e6f0b53aea611593c6d5131c4a57bfed5d3ce6c66276dca6ff517", func := "newel/newellaw25.VerboseLines", spec := "verboseLines", inPlace := ["internal/abi.NoEscape", "internal/bytealg.MakeNoZero"], unfollowed := true, recurses := true, apart := false }
def VerboseLinesSaid : Prop := verboseLinesRow.holds Try.pinned (OpenSpec.ofChange verboseLinesSpec)

/-- ITS FALSE NEIGHBOUR: 'it returns false'. Refute it at one input. -/
def verboseLinesWrong : ChangeSpec := { name := "verboseLines", fn := fun _ => fun
  | [d1, d2] => { results := [.lit (.bool false)], args := [d1, d2] }
  | _ => none }
def VerboseLinesWrongFalsely : Prop := verboseLinesRow.holds Try.pinned (OpenSpec.ofChange verboseLinesWrong)

/-- 'newellaw15.InheritTells': WHATEVER THE INPUT: true; the input reads as it did. -/
def inheritTellsSpec : ChangeSpec := { name := "inheritTells", fn := fun _ => fun
  | [d1, d2, d3] => { results := [.lit (.bool true)], args := [d1, d2, d3] }
  | _ => none }
def inheritTellsRow : OpenClaim := { program := "ytjfpnnmagnljnaa", sum := "209ff09a4c5e6f0b53aea611593c6d5131c4a57bfed5d3ce6c66276dca6ff517", func := "newel/newellaw15.InheritTells", spec := "inheritTells", unfollowed := true, recurses := true, apart := false }
def InheritTellsSaid : Prop := inheritTellsRow.holds Try.pinned (OpenSpec.ofChange inheritTellsSpec)

/-- ITS FALSE NEIGHBOUR: 'it returns false'. Refute it at one input. -/
def inheritTellsWrong : ChangeSpec := { name := "inheritTells", fn := fun _ => fun
  | [d1, d2, d3] => { results := [.lit (.bool false)], args := [d1, d2, d3] }
  | _ => none }
def InheritTellsWrongFalsely : Prop := inheritTellsRow.holds Try.pinned (OpenSpec.ofChange inheritTellsWrong)

/-- 'newellaw15.InheritFirst': WHATEVER THE INPUT: true; the input reads as it did. -/
def inheritFirstSpec : ChangeSpec := { name := "inheritFirst", fn := fun _ => fun
  | [d] => { results := [.lit (.bool true)], args := [d] }
  | _ => none }
def inheritFirstRow : OpenClaim := { program := "ytjfpnnmagnljnaa", sum := "209ff09a4c5e6f0b53aea611593c6d5131c4a57bfed5d3ce6c66276dca6ff517", func := "newel/newellaw15.InheritFirst", spec := "inheritFirst", unfollowed := true, recurses := true, apart := false }
def InheritFirstSaid : Prop := inheritFirstRow.holds Try.pinned (OpenSpec.ofChange inheritFirstSpec)

/-- ITS FALSE NEIGHBOUR: 'it returns false'. Refute it at one input. -/
def inheritFirstWrong : ChangeSpec := { name := "inheritFirst", fn := fun _ => fun
  | [d] => { results := [.lit (.bool false)], args := [d] }
  | _ => none }
def InheritFirstWrongFalsely : Prop := inheritFirstRow.holds Try.pinned (OpenSpec.ofChange inheritFirstWrong)

/-- 'newellaw15.InheritOver': WHATEVER THE INPUT: true; the input reads as it did. -/
def inheritOverSpec : ChangeSpec := { name := "inheritOver", fn := fun _ => fun
  | [d1, d2, d3] => { results := [.lit (.bool true)], args := [d1, d2, d3] }
  | _ => none }
def inheritOverRow : OpenClaim := { program := "ytjfpnnmagnljnaa", sum := "209ff09a4c5e6f0b53aea611593c6d5131c4a57bfed5d3ce6c66276dca6ff517", func := "newel/newellaw15.InheritOver", spec := "inheritOver", unfollowed := true, recurses := true, apart := false }
def InheritOverSaid : Prop := inheritOverRow.holds Try.pinned (OpenSpec.ofChange inheritOverSpec)

/-- ITS FALSE NEIGHBOUR: 'it returns false'. Refute it at one input. -/
def inheritOverWrong : ChangeSpec := { name := "inheritOver", fn := fun _ => fun
  | [d1, d2, d3] => { results := [.lit (.bool false)], args := [d1, d2, d3] }
  | _ => none }
def InheritOverWrongFalsely : Prop := inheritOverRow.holds Try.pinned (OpenSpec.ofChange inheritOverWrong)

/-- 'newellaw15.InheritMany': WHATEVER THE INPUT: true; the input reads as it did. -/
def inheritManySpec : ChangeSpec := { name := "inheritMany", fn := fun _ => fun
  | [d1, d2, d3, d4] => { results := [.lit (.bool true)], args := [d1, d2, d3, d4] }
  | _ => none }
def inheritManyRow : OpenClaim := { program := "ytjfpnnmagnljnaa", sum := "209ff09a4c5e6f0b53aea611593c6d5131c4a57bfed5d3ce6c66276dca6ff517", func := "newel/newellaw15.InheritMany", spec := "inheritMany", unfollowed := true, recurses := true, apart := false }
def InheritManySaid : Prop := inheritManyRow.holds Try.pinned (OpenSpec.ofChange inheritManySpec)

/-- ITS FALSE NEIGHBOUR: 'it returns false'. Refute it at one input. -/
def inheritManyWrong : ChangeSpec := { name := "inheritMany", fn := fun _ => fun
  | [d1, d2, d3, d4] => { results := [.lit (.bool false)], args := [d1, d2, d3, d4] }
  | _ => none }
def InheritManyWrongFalsely : Prop := inheritManyRow.holds Try.pinned (OpenSpec.ofChange inheritManyWrong)

/-- 'newellaw15.InheritImports': WHATEVER THE INPUT: true; the input reads as it did. -/
def inheritImportsSpec : ChangeSpec := { name := "inheritImports", fn := fun _ => fun
  | [d1, d2] => { results := [.lit (.bool true)], args := [d1, d2] }
  | _ => none }
def inheritImportsRow : OpenClaim := { program := "ytjfpnnmagnljnaa", sum := "209ff09a4c5e6f0b53aea611593c6d5131c4a57bfed5d3ce6c66276dca6ff517", func := "newel/newellaw15.InheritImports", spec := "inheritImports", unfollowed := true, recurses := true, apart := false }
def InheritImportsSaid : Prop := inheritImportsRow.holds Try.pinned (OpenSpec.ofChange inheritImportsSpec)

/-- ITS FALSE NEIGHBOUR: 'it returns false'. Refute it at one input. -/
def inheritImportsWrong : ChangeSpec := { name := "inheritImports", fn := fun _ => fun
  | [d1, d2] => { results := [.lit (.bool false)], args := [d1, d2] }
  | _ => none }
def InheritImportsWrongFalsely : Prop := inheritImportsRow.holds Try.pinned (OpenSpec.ofChange inheritImportsWrong)

/- THE SECOND FORM. 'bulk': how many values and letters a reading holds, each counted each time it is reached (what is shared counts as often as it is met; a slice's spare places count too). A statement '..UptoSaid' is the law's where the arguments, and the package variables that the reading takes, are together of bulk at most 1048576: NARROWER than '..Said'. Prove '..Said' where nothing that the law and all that it calls make is longer than what came in: it says more and counts as full. Else prove '..UptoSaid'. A law counts once. -/
mutual
def uptoBulk {H : Type} : DataW H → Nat
  | .lit (.string bytes) => bytes.length + 1
  | .lit _ => 1
  | .nil => 1
  | .ptr d => uptoBulk d + 1
  | .slice elems spare => uptoBulkAll elems + uptoBulkAll spare + 1
  | .agg parts => uptoBulkAll parts + 1
  | .iface _ d => uptoBulk d + 1
  | .map entries => uptoBulkEntries entries + 1
  | .held _ => 1
def uptoBulkAll {H : Type} : List (DataW H) → Nat
  | [] => 0
  | d :: r => uptoBulk d + uptoBulkAll r
def uptoBulkEntries {H : Type} : List (Lit × DataW H) → Nat
  | [] => 0
  | x :: r => uptoBulkEntry x + uptoBulkEntries r
def uptoBulkEntry {H : Type} : Lit × DataW H → Nat
  | (.string bytes, d) => bytes.length + uptoBulk d + 1
  | (_, d) => uptoBulk d + 1
 end
def uptoSmall : (H : Type) → List (DataW H) → Bool := fun _ ds => decide (uptoBulkAll ds ≤ 1048576)
def OpenSpec.upto (s : _root_.Go.ChangeSpec) : _root_.Go.OpenSpec := { _root_.Go.OpenSpec.ofChange s with cond := some uptoSmall }

/-- 'newellaw24.ClasspathTells', WHERE WHAT IT READS IS OF BULK AT MOST 1048576: true; the input reads as it did. -/
def classpathTellsUptoRow : OpenClaim := { program := "ytjfpnnmagnljnaa", sum := "209ff09a4c5e6f0b53aea611593c6d5131c4a57bfed5d3ce6c66276dca6ff517", func := "newel/newellaw24.ClasspathTells", spec := "classpathTells", inPlace := ["internal/abi.NoEscape", "internal/bytealg.MakeNoZero"], unfollowed := true, recurses := true, apart := false, narrowed := true }
def ClasspathTellsUptoSaid : Prop := classpathTellsUptoRow.holds Try.pinned (OpenSpec.upto classpathTellsSpec)

/-- 'newellaw24.ClasspathScopes', WHERE WHAT IT READS IS OF BULK AT MOST 1048576: true; the input reads as it did. -/
def classpathScopesUptoRow : OpenClaim := { program := "ytjfpnnmagnljnaa", sum := "209ff09a4c5e6f0b53aea611593c6d5131c4a57bfed5d3ce6c66276dca6ff517", func := "newel/newellaw24.ClasspathScopes", spec := "classpathScopes", inPlace := ["internal/abi.NoEscape", "internal/bytealg.MakeNoZero"], recurses := true, apart := false, narrowed := true }
def ClasspathScopesUptoSaid : Prop := classpathScopesUptoRow.holds Try.pinned (OpenSpec.upto classpathScopesSpec)

/-- 'newellaw24.ClasspathLines', WHERE WHAT IT READS IS OF BULK AT MOST 1048576: true; the input reads as it did. -/
def classpathLinesUptoRow : OpenClaim := { program := "ytjfpnnmagnljnaa", sum := "209ff09a4c5e6f0b53aea611593c6d5131c4a57bfed5d3ce6c66276dca6ff517", func := "newel/newellaw24.ClasspathLines", spec := "classpathLines", inPlace := ["internal/abi.NoEscape", "internal/bytealg.MakeNoZero"], apart := false, narrowed := true }
def ClasspathLinesUptoSaid : Prop := classpathLinesUptoRow.holds Try.pinned (OpenSpec.upto classpathLinesSpec)

/-- 'newellaw25.VerboseLines', WHERE WHAT IT READS IS OF BULK AT MOST 1048576: true; the input reads as it did. -/
def verboseLinesUptoRow : OpenClaim := { program := "ytjfpnnmagnljnaa", sum := "209ff09a4c5e6f0b53aea611593c6d5131c4a57bfed5d3ce6c66276dca6ff517", func := "newel/newellaw25.VerboseLines", spec := "verboseLines", inPlace := ["internal/abi.NoEscape", "internal/bytealg.MakeNoZero"], unfollowed := true, recurses := true, apart := false, narrowed := true }
def VerboseLinesUptoSaid : Prop := verboseLinesUptoRow.holds Try.pinned (OpenSpec.upto verboseLinesSpec)

/-- 'newellaw15.InheritTells', WHERE WHAT IT READS IS OF BULK AT MOST 1048576: true; the input reads as it did. -/
def inheritTellsUptoRow : OpenClaim := { program := "ytjfpnnmagnljnaa", sum := "209ff09a4c5e6f0b53aea611593c6d5131c4a57bfed5d3ce6c66276dca6ff517", func := "newel/newellaw15.InheritTells", spec := "inheritTells", unfollowed := true, recurses := true, apart := false, narrowed := true }
def InheritTellsUptoSaid : Prop := inheritTellsUptoRow.holds Try.pinned (OpenSpec.upto inheritTellsSpec)

/-- 'newellaw15.InheritFirst', WHERE WHAT IT READS IS OF BULK AT MOST 1048576: true; the input reads as it did. -/
def inheritFirstUptoRow : OpenClaim := { program := "ytjfpnnmagnljnaa", sum := "209ff09a4c5e6f0b53aea611593c6d5131c4a57bfed5d3ce6c66276dca6ff517", func := "newel/newellaw15.InheritFirst", spec := "inheritFirst", unfollowed := true, recurses := true, apart := false, narrowed := true }
def InheritFirstUptoSaid : Prop := inheritFirstUptoRow.holds Try.pinned (OpenSpec.upto inheritFirstSpec)

/-- 'newellaw15.InheritOver', WHERE WHAT IT READS IS OF BULK AT MOST 1048576: true; the input reads as it did. -/
def inheritOverUptoRow : OpenClaim := { program := "ytjfpnnmagnljnaa", sum := "209ff09a4c5e6f0b53aea611593c6d5131c4a57bfed5d3ce6c66276dca6ff517", func := "newel/newellaw15.InheritOver", spec := "inheritOver", unfollowed := true, recurses := true, apart := false, narrowed := true }
def InheritOverUptoSaid : Prop := inheritOverUptoRow.holds Try.pinned (OpenSpec.upto inheritOverSpec)

/-- 'newellaw15.InheritMany', WHERE WHAT IT READS IS OF BULK AT MOST 1048576: true; the input reads as it did. -/
def inheritManyUptoRow : OpenClaim := { program := "ytjfpnnmagnljnaa", sum := "209ff09a4c5e6f0b53aea611593c6d5131c4a57bfed5d3ce6c66276dca6ff517", func := "newel/newellaw15.InheritMany", spec := "inheritMany", unfollowed := true, recurses := true, apart := false, narrowed := true }
def InheritManyUptoSaid : Prop := inheritManyUptoRow.holds Try.pinned (OpenSpec.upto inheritManySpec)

/-- 'newellaw15.InheritImports', WHERE WHAT IT READS IS OF BULK AT MOST 1048576: true; the input reads as it did. -/
def inheritImportsUptoRow : OpenClaim := { program := "ytjfpnnmagnljnaa", sum := "209ff09a4c5e6f0b53aea611593c6d5131c4a57bfed5d3ce6c66276dca6ff517", func := "newel/newellaw15.InheritImports", spec := "inheritImports", unfollowed := true, recurses := true, apart := false, narrowed := true }
def InheritImportsUptoSaid : Prop := inheritImportsUptoRow.holds Try.pinned (OpenSpec.upto inheritImportsSpec)

end Rows
end Go.Proofs.Ytjfpnnmagnljnaa
