/-
  NARROWER THAN 'FOR EVERY INPUT', by the rows' own cells (each row's printed sentence says how): ChainUp: laid · ChainNames: laid · EffectiveImports: laid · EffectiveParents: laid · EffectiveRefuses: laid · EffectiveSelf: laid · MediateErrors: laid · MediateLine: laid · MediateOptional: laid · MediateManaged: laid · MediateCycles: laid · MediateTypes: laid.
  DERIVED. THE GIVEN ROWS OF THIS SEAT. 12 by the template 'for every input the law returns true; each argument reads behind the call as it read before'; 0 by the template 'total and deterministic' (their statements: YtbooikopklijdaaGreatDoorTotals.lean).
  GIVEN WITH THE SEED: the statements are not yours to turn. If you find one false, say at which input.
  Laid BY PROGRAM, IN A SANDBOX (cutbox-rows.mjs): the forced cells as the released guide's own fill.sh prints them over the translation 0c0b5dfda9ca7aa7… (all of the seat's roots in one cut). By AI agents, Wed Nov 11 2026. No macro, syntax, notation, axiom, sorry.
-/
import Derived.Test.YtbooikopklijdaaGreatDoorChecked
import GoSem.PinnedTables
import GoSem.Claim
import GoSem.ClaimJoined
import GoSem.ClaimMapViews
import Derived.JoinedTies
import Derived.KernelRfl
namespace Go.Proofs.YtbooikopklijdaaGreatDoor
/- THE CELL 'sum', in the pinned program and in every row, IS THE sha256 OF THE DUMP (.gsa) THAT YtbooikopklijdaaGreatDoorProg.lean LOADS. Nothing in Lean hashes anything: it is a label: what it is worth is what the hold of that sum in a sandbox is worth. -/
noncomputable def Tryz.pinned : Pinned := { name := "ytbooikopklijdaagreatdoor", sum := "0c0b5dfda9ca7aa7b496aa65596445c810afc8c952acce01a648e5b5a9230745", checked := Tryz.checked }
namespace Rows
def none {H : Type} : Left H := { results := [], args := [] }

/- WHAT THE LISTED PACKAGE-LEVEL VARIABLES READ AS WHEN THE CALL BEGINS. Each datum BY PROGRAM (the guide's laid-datum.mjs) off the statement by which the dump's own 'gosem.cut.vars' lays the variable. In a bare row this is a premise. The card (YtbooikopklijdaaGreatDoorCards.lean) ties it to the program's text. -/
def laid_unicode_utf8_acceptRanges {H : Type} : DataW H := .agg [.agg [.lit (.int .u8 128), .lit (.int .u8 191)], .agg [.lit (.int .u8 160), .lit (.int .u8 191)], .agg [.lit (.int .u8 128), .lit (.int .u8 159)], .agg [.lit (.int .u8 144), .lit (.int .u8 191)], .agg [.lit (.int .u8 128), .lit (.int .u8 143)], .agg [.lit (.int .u8 0), .lit (.int .u8 0)], .agg [.lit (.int .u8 0), .lit (.int .u8 0)], .agg [.lit (.int .u8 0), .lit (.int .u8 0)], .agg [.lit (.int .u8 0), .lit (.int .u8 0)], .agg [.lit (.int .u8 0), .lit (.int .u8 0)], .agg [.lit (.int .u8 0), .lit (.int .u8 0)], .agg [.lit (.int .u8 0), .lit (.int .u8 0)], .agg [.lit (.int .u8 0), .lit (.int .u8 0)], .agg [.lit (.int .u8 0), .lit (.int .u8 0)], .agg [.lit (.int .u8 0), .lit (.int .u8 0)], .agg [.lit (.int .u8 0), .lit (.int .u8 0)]]
/-- One of Go's own tables, pinned by name: the form's constant. -/
def laid_unicode_utf8_first : DataW Unit := Go.Pinned.utf8First

/-- 'newellaw14.ChainUp': WHATEVER THE INPUT: true; the input reads as it did. -/
def chainUpSpec : ChangeSpec := { name := "chainUp", fn := fun _ => fun
  | [d1, d2] => { results := [.lit (.bool true)], args := [d1, d2] }
  | _ => none }
def chainUpRow : OpenClaim := { program := "ytbooikopklijdaagreatdoor", sum := "0c0b5dfda9ca7aa7b496aa65596445c810afc8c952acce01a648e5b5a9230745", func := "newel/newellaw14.ChainUp", spec := "chainUp", inPlace := ["internal/bytealg.IndexByteString", "internal/bytealg.IndexString", "internal/abi.NoEscape"], unfollowed := true, recurses := true, named := ["unicode/utf8.first", "unicode/utf8.acceptRanges", "internal/bytealg.MaxLen"], plainKeys := false, apart := false, laid := [("unicode/utf8.acceptRanges", laid_unicode_utf8_acceptRanges), ("unicode/utf8.first", laid_unicode_utf8_first)] }
def ChainUpSaid : Prop := chainUpRow.holds Tryz.pinned (OpenSpec.ofChange chainUpSpec)

/-- ITS FALSE NEIGHBOUR: 'it returns false'. Refute it at one input. -/
def chainUpWrong : ChangeSpec := { name := "chainUp", fn := fun _ => fun
  | [d1, d2] => { results := [.lit (.bool false)], args := [d1, d2] }
  | _ => none }
def ChainUpWrongFalsely : Prop := chainUpRow.holds Tryz.pinned (OpenSpec.ofChange chainUpWrong)

/-- 'newellaw14.ChainNames': WHATEVER THE INPUT: true; the input reads as it did. -/
def chainNamesSpec : ChangeSpec := { name := "chainNames", fn := fun _ => fun
  | [d] => { results := [.lit (.bool true)], args := [d] }
  | _ => none }
def chainNamesRow : OpenClaim := { program := "ytbooikopklijdaagreatdoor", sum := "0c0b5dfda9ca7aa7b496aa65596445c810afc8c952acce01a648e5b5a9230745", func := "newel/newellaw14.ChainNames", spec := "chainNames", inPlace := ["internal/bytealg.IndexByteString", "internal/bytealg.IndexString", "internal/abi.NoEscape"], unfollowed := true, recurses := true, named := ["unicode/utf8.first", "unicode/utf8.acceptRanges", "internal/bytealg.MaxLen"], plainKeys := false, apart := false, laid := [("unicode/utf8.acceptRanges", laid_unicode_utf8_acceptRanges), ("unicode/utf8.first", laid_unicode_utf8_first)] }
def ChainNamesSaid : Prop := chainNamesRow.holds Tryz.pinned (OpenSpec.ofChange chainNamesSpec)

/-- ITS FALSE NEIGHBOUR: 'it returns false'. Refute it at one input. -/
def chainNamesWrong : ChangeSpec := { name := "chainNames", fn := fun _ => fun
  | [d] => { results := [.lit (.bool false)], args := [d] }
  | _ => none }
def ChainNamesWrongFalsely : Prop := chainNamesRow.holds Tryz.pinned (OpenSpec.ofChange chainNamesWrong)

/-- 'newellaw18.EffectiveImports': WHATEVER THE INPUT: true; the input reads as it did. -/
def effectiveImportsSpec : ChangeSpec := { name := "effectiveImports", fn := fun _ => fun
  | [d1, d2] => { results := [.lit (.bool true)], args := [d1, d2] }
  | _ => none }
def effectiveImportsRow : OpenClaim := { program := "ytbooikopklijdaagreatdoor", sum := "0c0b5dfda9ca7aa7b496aa65596445c810afc8c952acce01a648e5b5a9230745", func := "newel/newellaw18.EffectiveImports", spec := "effectiveImports", inPlace := ["internal/bytealg.IndexByteString", "internal/bytealg.IndexString", "internal/abi.NoEscape", "internal/bytealg.MakeNoZero"], unfollowed := true, recurses := true, named := ["unicode/utf8.first", "unicode/utf8.acceptRanges", "internal/bytealg.MaxLen"], plainKeys := false, apart := false, laid := [("unicode/utf8.acceptRanges", laid_unicode_utf8_acceptRanges), ("unicode/utf8.first", laid_unicode_utf8_first)] }
def EffectiveImportsSaid : Prop := effectiveImportsRow.holds Tryz.pinned (OpenSpec.ofChange effectiveImportsSpec)

/-- ITS FALSE NEIGHBOUR: 'it returns false'. Refute it at one input. -/
def effectiveImportsWrong : ChangeSpec := { name := "effectiveImports", fn := fun _ => fun
  | [d1, d2] => { results := [.lit (.bool false)], args := [d1, d2] }
  | _ => none }
def EffectiveImportsWrongFalsely : Prop := effectiveImportsRow.holds Tryz.pinned (OpenSpec.ofChange effectiveImportsWrong)

/-- 'newellaw18.EffectiveParents': WHATEVER THE INPUT: true; the input reads as it did. -/
def effectiveParentsSpec : ChangeSpec := { name := "effectiveParents", fn := fun _ => fun
  | [d1, d2, d3] => { results := [.lit (.bool true)], args := [d1, d2, d3] }
  | _ => none }
def effectiveParentsRow : OpenClaim := { program := "ytbooikopklijdaagreatdoor", sum := "0c0b5dfda9ca7aa7b496aa65596445c810afc8c952acce01a648e5b5a9230745", func := "newel/newellaw18.EffectiveParents", spec := "effectiveParents", inPlace := ["internal/bytealg.IndexByteString", "internal/bytealg.IndexString", "internal/abi.NoEscape", "internal/bytealg.MakeNoZero"], unfollowed := true, recurses := true, named := ["unicode/utf8.first", "unicode/utf8.acceptRanges", "internal/bytealg.MaxLen"], plainKeys := false, apart := false, laid := [("unicode/utf8.acceptRanges", laid_unicode_utf8_acceptRanges), ("unicode/utf8.first", laid_unicode_utf8_first)] }
def EffectiveParentsSaid : Prop := effectiveParentsRow.holds Tryz.pinned (OpenSpec.ofChange effectiveParentsSpec)

/-- ITS FALSE NEIGHBOUR: 'it returns false'. Refute it at one input. -/
def effectiveParentsWrong : ChangeSpec := { name := "effectiveParents", fn := fun _ => fun
  | [d1, d2, d3] => { results := [.lit (.bool false)], args := [d1, d2, d3] }
  | _ => none }
def EffectiveParentsWrongFalsely : Prop := effectiveParentsRow.holds Tryz.pinned (OpenSpec.ofChange effectiveParentsWrong)

/-- 'newellaw18.EffectiveRefuses': WHATEVER THE INPUT: true; the input reads as it did. -/
def effectiveRefusesSpec : ChangeSpec := { name := "effectiveRefuses", fn := fun _ => fun
  | [d] => { results := [.lit (.bool true)], args := [d] }
  | _ => none }
def effectiveRefusesRow : OpenClaim := { program := "ytbooikopklijdaagreatdoor", sum := "0c0b5dfda9ca7aa7b496aa65596445c810afc8c952acce01a648e5b5a9230745", func := "newel/newellaw18.EffectiveRefuses", spec := "effectiveRefuses", inPlace := ["internal/bytealg.IndexByteString", "internal/bytealg.IndexString", "internal/abi.NoEscape", "internal/bytealg.MakeNoZero"], unfollowed := true, recurses := true, named := ["unicode/utf8.first", "unicode/utf8.acceptRanges", "internal/bytealg.MaxLen"], plainKeys := false, apart := false, laid := [("unicode/utf8.acceptRanges", laid_unicode_utf8_acceptRanges), ("unicode/utf8.first", laid_unicode_utf8_first)] }
def EffectiveRefusesSaid : Prop := effectiveRefusesRow.holds Tryz.pinned (OpenSpec.ofChange effectiveRefusesSpec)

/-- ITS FALSE NEIGHBOUR: 'it returns false'. Refute it at one input. -/
def effectiveRefusesWrong : ChangeSpec := { name := "effectiveRefuses", fn := fun _ => fun
  | [d] => { results := [.lit (.bool false)], args := [d] }
  | _ => none }
def EffectiveRefusesWrongFalsely : Prop := effectiveRefusesRow.holds Tryz.pinned (OpenSpec.ofChange effectiveRefusesWrong)

/-- 'newellaw18.EffectiveSelf': WHATEVER THE INPUT: true; the input reads as it did. -/
def effectiveSelfSpec : ChangeSpec := { name := "effectiveSelf", fn := fun _ => fun
  | [d1, d2] => { results := [.lit (.bool true)], args := [d1, d2] }
  | _ => none }
def effectiveSelfRow : OpenClaim := { program := "ytbooikopklijdaagreatdoor", sum := "0c0b5dfda9ca7aa7b496aa65596445c810afc8c952acce01a648e5b5a9230745", func := "newel/newellaw18.EffectiveSelf", spec := "effectiveSelf", inPlace := ["internal/bytealg.IndexByteString", "internal/bytealg.IndexString", "internal/abi.NoEscape", "internal/bytealg.MakeNoZero"], unfollowed := true, recurses := true, named := ["unicode/utf8.first", "unicode/utf8.acceptRanges", "internal/bytealg.MaxLen"], plainKeys := false, apart := false, laid := [("unicode/utf8.acceptRanges", laid_unicode_utf8_acceptRanges), ("unicode/utf8.first", laid_unicode_utf8_first)] }
def EffectiveSelfSaid : Prop := effectiveSelfRow.holds Tryz.pinned (OpenSpec.ofChange effectiveSelfSpec)

/-- ITS FALSE NEIGHBOUR: 'it returns false'. Refute it at one input. -/
def effectiveSelfWrong : ChangeSpec := { name := "effectiveSelf", fn := fun _ => fun
  | [d1, d2] => { results := [.lit (.bool false)], args := [d1, d2] }
  | _ => none }
def EffectiveSelfWrongFalsely : Prop := effectiveSelfRow.holds Tryz.pinned (OpenSpec.ofChange effectiveSelfWrong)

/-- 'newellaw23.MediateErrors': WHATEVER THE INPUT: true; the input reads as it did. -/
def mediateErrorsSpec : ChangeSpec := { name := "mediateErrors", fn := fun _ => fun
  | [d] => { results := [.lit (.bool true)], args := [d] }
  | _ => none }
def mediateErrorsRow : OpenClaim := { program := "ytbooikopklijdaagreatdoor", sum := "0c0b5dfda9ca7aa7b496aa65596445c810afc8c952acce01a648e5b5a9230745", func := "newel/newellaw23.MediateErrors", spec := "mediateErrors", inPlace := ["internal/bytealg.IndexByteString", "internal/bytealg.IndexString", "internal/abi.NoEscape", "internal/bytealg.MakeNoZero"], unfollowed := true, recurses := true, named := ["unicode/utf8.first", "unicode/utf8.acceptRanges", "internal/bytealg.MaxLen"], plainKeys := false, apart := false, laid := [("unicode/utf8.acceptRanges", laid_unicode_utf8_acceptRanges), ("unicode/utf8.first", laid_unicode_utf8_first)] }
def MediateErrorsSaid : Prop := mediateErrorsRow.holds Tryz.pinned (OpenSpec.ofChange mediateErrorsSpec)

/-- ITS FALSE NEIGHBOUR: 'it returns false'. Refute it at one input. -/
def mediateErrorsWrong : ChangeSpec := { name := "mediateErrors", fn := fun _ => fun
  | [d] => { results := [.lit (.bool false)], args := [d] }
  | _ => none }
def MediateErrorsWrongFalsely : Prop := mediateErrorsRow.holds Tryz.pinned (OpenSpec.ofChange mediateErrorsWrong)

/-- 'newellaw23.MediateLine': WHATEVER THE INPUT: true; the input reads as it did. -/
def mediateLineSpec : ChangeSpec := { name := "mediateLine", fn := fun _ => fun
  | [d1, d2] => { results := [.lit (.bool true)], args := [d1, d2] }
  | _ => none }
def mediateLineRow : OpenClaim := { program := "ytbooikopklijdaagreatdoor", sum := "0c0b5dfda9ca7aa7b496aa65596445c810afc8c952acce01a648e5b5a9230745", func := "newel/newellaw23.MediateLine", spec := "mediateLine", inPlace := ["internal/bytealg.IndexByteString", "internal/bytealg.IndexString", "internal/abi.NoEscape", "internal/bytealg.MakeNoZero"], unfollowed := true, recurses := true, named := ["unicode/utf8.first", "unicode/utf8.acceptRanges", "internal/bytealg.MaxLen"], plainKeys := false, apart := false, laid := [("unicode/utf8.acceptRanges", laid_unicode_utf8_acceptRanges), ("unicode/utf8.first", laid_unicode_utf8_first)] }
def MediateLineSaid : Prop := mediateLineRow.holds Tryz.pinned (OpenSpec.ofChange mediateLineSpec)

/-- ITS FALSE NEIGHBOUR: 'it returns false'. Refute it at one input. -/
def mediateLineWrong : ChangeSpec := { name := "mediateLine", fn := fun _ => fun
  | [d1, d2] => { results := [.lit (.bool false)], args := [d1, d2] }
  | _ => none }
def MediateLineWrongFalsely : Prop := mediateLineRow.holds Tryz.pinned (OpenSpec.ofChange mediateLineWrong)

/-- 'newellaw23.MediateOptional': WHATEVER THE INPUT: true; the input reads as it did. -/
def mediateOptionalSpec : ChangeSpec := { name := "mediateOptional", fn := fun _ => fun
  | [d1, d2, d3] => { results := [.lit (.bool true)], args := [d1, d2, d3] }
  | _ => none }
def mediateOptionalRow : OpenClaim := { program := "ytbooikopklijdaagreatdoor", sum := "0c0b5dfda9ca7aa7b496aa65596445c810afc8c952acce01a648e5b5a9230745", func := "newel/newellaw23.MediateOptional", spec := "mediateOptional", inPlace := ["internal/bytealg.IndexByteString", "internal/bytealg.IndexString", "internal/abi.NoEscape", "internal/bytealg.MakeNoZero"], unfollowed := true, recurses := true, named := ["unicode/utf8.first", "unicode/utf8.acceptRanges", "internal/bytealg.MaxLen"], plainKeys := false, apart := false, laid := [("unicode/utf8.acceptRanges", laid_unicode_utf8_acceptRanges), ("unicode/utf8.first", laid_unicode_utf8_first)] }
def MediateOptionalSaid : Prop := mediateOptionalRow.holds Tryz.pinned (OpenSpec.ofChange mediateOptionalSpec)

/-- ITS FALSE NEIGHBOUR: 'it returns false'. Refute it at one input. -/
def mediateOptionalWrong : ChangeSpec := { name := "mediateOptional", fn := fun _ => fun
  | [d1, d2, d3] => { results := [.lit (.bool false)], args := [d1, d2, d3] }
  | _ => none }
def MediateOptionalWrongFalsely : Prop := mediateOptionalRow.holds Tryz.pinned (OpenSpec.ofChange mediateOptionalWrong)

/-- 'newellaw23.MediateManaged': WHATEVER THE INPUT: true; the input reads as it did. -/
def mediateManagedSpec : ChangeSpec := { name := "mediateManaged", fn := fun _ => fun
  | [d1, d2] => { results := [.lit (.bool true)], args := [d1, d2] }
  | _ => none }
def mediateManagedRow : OpenClaim := { program := "ytbooikopklijdaagreatdoor", sum := "0c0b5dfda9ca7aa7b496aa65596445c810afc8c952acce01a648e5b5a9230745", func := "newel/newellaw23.MediateManaged", spec := "mediateManaged", inPlace := ["internal/bytealg.IndexByteString", "internal/bytealg.IndexString", "internal/abi.NoEscape", "internal/bytealg.MakeNoZero"], unfollowed := true, recurses := true, named := ["unicode/utf8.first", "unicode/utf8.acceptRanges", "internal/bytealg.MaxLen"], plainKeys := false, apart := false, laid := [("unicode/utf8.acceptRanges", laid_unicode_utf8_acceptRanges), ("unicode/utf8.first", laid_unicode_utf8_first)] }
def MediateManagedSaid : Prop := mediateManagedRow.holds Tryz.pinned (OpenSpec.ofChange mediateManagedSpec)

/-- ITS FALSE NEIGHBOUR: 'it returns false'. Refute it at one input. -/
def mediateManagedWrong : ChangeSpec := { name := "mediateManaged", fn := fun _ => fun
  | [d1, d2] => { results := [.lit (.bool false)], args := [d1, d2] }
  | _ => none }
def MediateManagedWrongFalsely : Prop := mediateManagedRow.holds Tryz.pinned (OpenSpec.ofChange mediateManagedWrong)

/-- 'newellaw23.MediateCycles': WHATEVER THE INPUT: true; the input reads as it did. -/
def mediateCyclesSpec : ChangeSpec := { name := "mediateCycles", fn := fun _ => fun
  | [d1, d2] => { results := [.lit (.bool true)], args := [d1, d2] }
  | _ => none }
def mediateCyclesRow : OpenClaim := { program := "ytbooikopklijdaagreatdoor", sum := "0c0b5dfda9ca7aa7b496aa65596445c810afc8c952acce01a648e5b5a9230745", func := "newel/newellaw23.MediateCycles", spec := "mediateCycles", inPlace := ["internal/bytealg.IndexByteString", "internal/bytealg.IndexString", "internal/abi.NoEscape", "internal/bytealg.MakeNoZero"], unfollowed := true, recurses := true, named := ["unicode/utf8.first", "unicode/utf8.acceptRanges", "internal/bytealg.MaxLen"], plainKeys := false, apart := false, laid := [("unicode/utf8.acceptRanges", laid_unicode_utf8_acceptRanges), ("unicode/utf8.first", laid_unicode_utf8_first)] }
def MediateCyclesSaid : Prop := mediateCyclesRow.holds Tryz.pinned (OpenSpec.ofChange mediateCyclesSpec)

/-- ITS FALSE NEIGHBOUR: 'it returns false'. Refute it at one input. -/
def mediateCyclesWrong : ChangeSpec := { name := "mediateCycles", fn := fun _ => fun
  | [d1, d2] => { results := [.lit (.bool false)], args := [d1, d2] }
  | _ => none }
def MediateCyclesWrongFalsely : Prop := mediateCyclesRow.holds Tryz.pinned (OpenSpec.ofChange mediateCyclesWrong)

/-- 'newellaw23.MediateTypes': WHATEVER THE INPUT: true; the input reads as it did. -/
def mediateTypesSpec : ChangeSpec := { name := "mediateTypes", fn := fun _ => fun
  | [d] => { results := [.lit (.bool true)], args := [d] }
  | _ => none }
def mediateTypesRow : OpenClaim := { program := "ytbooikopklijdaagreatdoor", sum := "0c0b5dfda9ca7aa7b496aa65596445c810afc8c952acce01a648e5b5a9230745", func := "newel/newellaw23.MediateTypes", spec := "mediateTypes", inPlace := ["internal/bytealg.IndexByteString", "internal/bytealg.IndexString", "internal/abi.NoEscape", "internal/bytealg.MakeNoZero"], unfollowed := true, recurses := true, named := ["unicode/utf8.first", "unicode/utf8.acceptRanges", "internal/bytealg.MaxLen"], plainKeys := false, apart := false, laid := [("unicode/utf8.acceptRanges", laid_unicode_utf8_acceptRanges), ("unicode/utf8.first", laid_unicode_utf8_first)] }
def MediateTypesSaid : Prop := mediateTypesRow.holds Tryz.pinned (OpenSpec.ofChange mediateTypesSpec)

/-- ITS FALSE NEIGHBOUR: 'it returns false'. Refute it at one input. -/
def mediateTypesWrong : ChangeSpec := { name := "mediateTypes", fn := fun _ => fun
  | [d] => { results := [.lit (.bool false)], args := [d] }
  | _ => none }
def MediateTypesWrongFalsely : Prop := mediateTypesRow.holds Tryz.pinned (OpenSpec.ofChange mediateTypesWrong)

/- THE SECOND FORM. 'bulk': how many values and letters a reading holds, each counted each time it is reached (what is shared counts as often as it is met; a slice's spare places count too). A statement '..UptoSaid' is the law's where the arguments, and the package variables that the reading takes, are together of bulk at most 1048576: NARROWER than '..Said'. Prove '..Said' where nothing that the law and all that it calls make is longer than what came in: it says more and counts as full. Else prove '..UptoSaid'. A law counts once. -/
mutual
def uptoBulk {H : Type} : DataW H → Nat
  | .lit (.string bytes) => bytes.length + 1
  | .lit _ => 1
  | .nil => 1
  | .ptr d => uptoBulk d + 1
  | .slice elems spare => uptoBulkAll elems + uptoBulkAll spare + 1
  | .agg parts => uptoBulkAll parts + 1
  | .iface _ d => uptoBulk d + 1
  | .map entries => uptoBulkEntries entries + 1
  | .held _ => 1
def uptoBulkAll {H : Type} : List (DataW H) → Nat
  | [] => 0
  | d :: r => uptoBulk d + uptoBulkAll r
def uptoBulkEntries {H : Type} : List (Lit × DataW H) → Nat
  | [] => 0
  | x :: r => uptoBulkEntry x + uptoBulkEntries r
def uptoBulkEntry {H : Type} : Lit × DataW H → Nat
  | (.string bytes, d) => bytes.length + uptoBulk d + 1
  | (_, d) => uptoBulk d + 1
 end
def uptoSmall : (H : Type) → List (DataW H) → Bool := fun _ ds => decide (uptoBulkAll ds ≤ 1048576)
def OpenSpec.upto (s : _root_.Go.ChangeSpec) : _root_.Go.OpenSpec := { _root_.Go.OpenSpec.ofChange s with cond := some uptoSmall }

/-- 'newellaw14.ChainUp', WHERE WHAT IT READS IS OF BULK AT MOST 1048576: true; the input reads as it did. -/
def chainUpUptoRow : OpenClaim := { program := "ytbooikopklijdaagreatdoor", sum := "0c0b5dfda9ca7aa7b496aa65596445c810afc8c952acce01a648e5b5a9230745", func := "newel/newellaw14.ChainUp", spec := "chainUp", inPlace := ["internal/bytealg.IndexByteString", "internal/bytealg.IndexString", "internal/abi.NoEscape"], unfollowed := true, recurses := true, named := ["unicode/utf8.first", "unicode/utf8.acceptRanges", "internal/bytealg.MaxLen"], plainKeys := false, apart := false, laid := [("unicode/utf8.acceptRanges", laid_unicode_utf8_acceptRanges), ("unicode/utf8.first", laid_unicode_utf8_first)], narrowed := true }
def ChainUpUptoSaid : Prop := chainUpUptoRow.holds Tryz.pinned (OpenSpec.upto chainUpSpec)

/-- 'newellaw14.ChainNames', WHERE WHAT IT READS IS OF BULK AT MOST 1048576: true; the input reads as it did. -/
def chainNamesUptoRow : OpenClaim := { program := "ytbooikopklijdaagreatdoor", sum := "0c0b5dfda9ca7aa7b496aa65596445c810afc8c952acce01a648e5b5a9230745", func := "newel/newellaw14.ChainNames", spec := "chainNames", inPlace := ["internal/bytealg.IndexByteString", "internal/bytealg.IndexString", "internal/abi.NoEscape"], unfollowed := true, recurses := true, named := ["unicode/utf8.first", "unicode/utf8.acceptRanges", "internal/bytealg.MaxLen"], plainKeys := false, apart := false, laid := [("unicode/utf8.acceptRanges", laid_unicode_utf8_acceptRanges), ("unicode/utf8.first", laid_unicode_utf8_first)], narrowed := true }
def ChainNamesUptoSaid : Prop := chainNamesUptoRow.holds Tryz.pinned (OpenSpec.upto chainNamesSpec)

/-- 'newellaw18.EffectiveImports', WHERE WHAT IT READS IS OF BULK AT MOST 1048576: true; the input reads as it did. -/
def effectiveImportsUptoRow : OpenClaim := { program := "ytbooikopklijdaagreatdoor", sum := "0c0b5dfda9ca7aa7b496aa65596445c810afc8c952acce01a648e5b5a9230745", func := "newel/newellaw18.EffectiveImports", spec := "effectiveImports", inPlace := ["internal/bytealg.IndexByteString", "internal/bytealg.IndexString", "internal/abi.NoEscape", "internal/bytealg.MakeNoZero"], unfollowed := true, recurses := true, named := ["unicode/utf8.first", "unicode/utf8.acceptRanges", "internal/bytealg.MaxLen"], plainKeys := false, apart := false, laid := [("unicode/utf8.acceptRanges", laid_unicode_utf8_acceptRanges), ("unicode/utf8.first", laid_unicode_utf8_first)], narrowed := true }
def EffectiveImportsUptoSaid : Prop := effectiveImportsUptoRow.holds Tryz.pinned (OpenSpec.upto effectiveImportsSpec)

/-- 'newellaw18.EffectiveParents', WHERE WHAT IT READS IS OF BULK AT MOST 1048576: true; the input reads as it did. -/
def effectiveParentsUptoRow : OpenClaim := { program := "ytbooikopklijdaagreatdoor", sum := "0c0b5dfda9ca7aa7b496aa65596445c810afc8c952acce01a648e5b5a9230745", func := "newel/newellaw18.EffectiveParents", spec := "effectiveParents", inPlace := ["internal/bytealg.IndexByteString", "internal/bytealg.IndexString", "internal/abi.NoEscape", "internal/bytealg.MakeNoZero"], unfollowed := true, recurses := true, named := ["unicode/utf8.first", "unicode/utf8.acceptRanges", "internal/bytealg.MaxLen"], plainKeys := false, apart := false, laid := [("unicode/utf8.acceptRanges", laid_unicode_utf8_acceptRanges), ("unicode/utf8.first", laid_unicode_utf8_first)], narrowed := true }
def EffectiveParentsUptoSaid : Prop := effectiveParentsUptoRow.holds Tryz.pinned (OpenSpec.upto effectiveParentsSpec)

/-- 'newellaw18.EffectiveRefuses', WHERE WHAT IT READS IS OF BULK AT MOST 1048576: true; the input reads as it did. -/
def effectiveRefusesUptoRow : OpenClaim := { program := "ytbooikopklijdaagreatdoor", sum := "0c0b5dfda9ca7aa7b496aa65596445c810afc8c952acce01a648e5b5a9230745", func := "newel/newellaw18.EffectiveRefuses", spec := "effectiveRefuses", inPlace := ["internal/bytealg.IndexByteString", "internal/bytealg.IndexString", "internal/abi.NoEscape", "internal/bytealg.MakeNoZero"], unfollowed := true, recurses := true, named := ["unicode/utf8.first", "unicode/utf8.acceptRanges", "internal/bytealg.MaxLen"], plainKeys := false, apart := false, laid := [("unicode/utf8.acceptRanges", laid_unicode_utf8_acceptRanges), ("unicode/utf8.first", laid_unicode_utf8_first)], narrowed := true }
def EffectiveRefusesUptoSaid : Prop := effectiveRefusesUptoRow.holds Tryz.pinned (OpenSpec.upto effectiveRefusesSpec)

/-- 'newellaw18.EffectiveSelf', WHERE WHAT IT READS IS OF BULK AT MOST 1048576: true; the input reads as it did. -/
def effectiveSelfUptoRow : OpenClaim := { program := "ytbooikopklijdaagreatdoor", sum := "0c0b5dfda9ca7aa7b496aa65596445c810afc8c952acce01a648e5b5a9230745", func := "newel/newellaw18.EffectiveSelf", spec := "effectiveSelf", inPlace := ["internal/bytealg.IndexByteString", "internal/bytealg.IndexString", "internal/abi.NoEscape", "internal/bytealg.MakeNoZero"], unfollowed := true, recurses := true, named := ["unicode/utf8.first", "unicode/utf8.acceptRanges", "internal/bytealg.MaxLen"], plainKeys := false, apart := false, laid := [("unicode/utf8.acceptRanges", laid_unicode_utf8_acceptRanges), ("unicode/utf8.first", laid_unicode_utf8_first)], narrowed := true }
def EffectiveSelfUptoSaid : Prop := effectiveSelfUptoRow.holds Tryz.pinned (OpenSpec.upto effectiveSelfSpec)

/-- 'newellaw23.MediateErrors', WHERE WHAT IT READS IS OF BULK AT MOST 1048576: true; the input reads as it did. -/
def mediateErrorsUptoRow : OpenClaim := { program := "ytbooikopklijdaagreatdoor", sum := "0c0b5dfda9ca7aa7b496aa65596445c810afc8c952acce01a648e5b5a9230745", func := "newel/newellaw23.MediateErrors", spec := "mediateErrors", inPlace := ["internal/bytealg.IndexByteString", "internal/bytealg.IndexString", "internal/abi.NoEscape", "internal/bytealg.MakeNoZero"], unfollowed := true, recurses := true, named := ["unicode/utf8.first", "unicode/utf8.acceptRanges", "internal/bytealg.MaxLen"], plainKeys := false, apart := false, laid := [("unicode/utf8.acceptRanges", laid_unicode_utf8_acceptRanges), ("unicode/utf8.first", laid_unicode_utf8_first)], narrowed := true }
def MediateErrorsUptoSaid : Prop := mediateErrorsUptoRow.holds Tryz.pinned (OpenSpec.upto mediateErrorsSpec)

/-- 'newellaw23.MediateLine', WHERE WHAT IT READS IS OF BULK AT MOST 1048576: true; the input reads as it did. -/
def mediateLineUptoRow : OpenClaim := { program := "ytbooikopklijdaagreatdoor", sum := "0c0b5dfda9ca7aa7b496aa65596445c810afc8c952acce01a648e5b5a9230745", func := "newel/newellaw23.MediateLine", spec := "mediateLine", inPlace := ["internal/bytealg.IndexByteString", "internal/bytealg.IndexString", "internal/abi.NoEscape", "internal/bytealg.MakeNoZero"], unfollowed := true, recurses := true, named := ["unicode/utf8.first", "unicode/utf8.acceptRanges", "internal/bytealg.MaxLen"], plainKeys := false, apart := false, laid := [("unicode/utf8.acceptRanges", laid_unicode_utf8_acceptRanges), ("unicode/utf8.first", laid_unicode_utf8_first)], narrowed := true }
def MediateLineUptoSaid : Prop := mediateLineUptoRow.holds Tryz.pinned (OpenSpec.upto mediateLineSpec)

/-- 'newellaw23.MediateOptional', WHERE WHAT IT READS IS OF BULK AT MOST 1048576: true; the input reads as it did. -/
def mediateOptionalUptoRow : OpenClaim := { program := "ytbooikopklijdaagreatdoor", sum := "0c0b5dfda9ca7aa7b496aa65596445c810afc8c952acce01a648e5b5a9230745", func := "newel/newellaw23.MediateOptional", spec := "mediateOptional", inPlace := ["internal/bytealg.IndexByteString", "internal/bytealg.IndexString", "internal/abi.NoEscape", "internal/bytealg.MakeNoZero"], unfollowed := true, recurses := true, named := ["unicode/utf8.first", "unicode/utf8.acceptRanges", "internal/bytealg.MaxLen"], plainKeys := false, apart := false, laid := [("unicode/utf8.acceptRanges", laid_unicode_utf8_acceptRanges), ("unicode/utf8.first", laid_unicode_utf8_first)], narrowed := true }
def MediateOptionalUptoSaid : Prop := mediateOptionalUptoRow.holds Tryz.pinned (OpenSpec.upto mediateOptionalSpec)

/-- 'newellaw23.MediateManaged', WHERE WHAT IT READS IS OF BULK AT MOST 1048576: true; the input reads as it did. -/
def mediateManagedUptoRow : OpenClaim := { program := "ytbooikopklijdaagreatdoor", sum := "0c0b5dfda9ca7aa7b496aa65596445c810afc8c952acce01a648e5b5a9230745", func := "newel/newellaw23.MediateManaged", spec := "mediateManaged", inPlace := ["internal/bytealg.IndexByteString", "internal/bytealg.IndexString", "internal/abi.NoEscape", "internal/bytealg.MakeNoZero"], unfollowed := true, recurses := true, named := ["unicode/utf8.first", "unicode/utf8.acceptRanges", "internal/bytealg.MaxLen"], plainKeys := false, apart := false, laid := [("unicode/utf8.acceptRanges", laid_unicode_utf8_acceptRanges), ("unicode/utf8.first", laid_unicode_utf8_first)], narrowed := true }
def MediateManagedUptoSaid : Prop := mediateManagedUptoRow.holds Tryz.pinned (OpenSpec.upto mediateManagedSpec)

/-- 'newellaw23.MediateCycles', WHERE WHAT IT READS IS OF BULK AT MOST 1048576: true; the input reads as it did. -/
def mediateCyclesUptoRow : OpenClaim := { program := "ytbooikopklijdaagreatdoor", sum := "0c0b5dfda9ca7aa7b496aa65596445c810afc8c952acce01a648e5b5a9230745", func := "newel/newellaw23.MediateCycles", spec := "mediateCycles", inPlace := ["internal/bytealg.IndexByteString", "internal/bytealg.IndexString", "internal/abi.NoEscape", "internal/bytealg.MakeNoZero"], unfollowed := true, recurses := true, named := ["unicode/utf8.first", "unicode/utf8.acceptRanges", "internal/bytealg.MaxLen"], plainKeys := false, apart := false, laid := [("unicode/utf8.acceptRanges", laid_unicode_utf8_acceptRanges), ("unicode/utf8.first", laid_unicode_utf8_first)], narrowed := true }
def MediateCyclesUptoSaid : Prop := mediateCyclesUptoRow.holds Tryz.pinned (OpenSpec.upto mediateCyclesSpec)

/-- 'newellaw23.MediateTypes', WHERE WHAT IT READS IS OF BULK AT MOST 1048576: true; the input reads as it did. -/
def mediateTypesUptoRow : OpenClaim := { program := "ytbooikopklijdaagreatdoor", sum := "0c0b5dfda9ca7aa7b496aa65596445c810afc8c952acce01a648e5b5a9230745", func := "newel/newellaw23.MediateTypes", spec := "mediateTypes", inPlace := ["internal/bytealg.IndexByteString", "internal/bytealg.IndexString", "internal/abi.NoEscape", "internal/bytealg.MakeNoZero"], unfollowed := true, recurses := true, named := ["unicode/utf8.first", "unicode/utf8.acceptRanges", "internal/bytealg.MaxLen"], plainKeys := false, apart := false, laid := [("unicode/utf8.acceptRanges", laid_unicode_utf8_acceptRanges), ("unicode/utf8.first", laid_unicode_utf8_first)], narrowed := true }
def MediateTypesUptoSaid : Prop := mediateTypesUptoRow.holds Tryz.pinned (OpenSpec.upto mediateTypesSpec)

end Rows
end Go.Proofs.YtbooikopklijdaaGreatDoor
