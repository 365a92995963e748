/- Bundle 5: NwShelf, NwB3, NwC1, NwC2, NwC3, NwC4, NwC5, NwC6. -/
import Derived.Test.YtjfpnnmagnljnaaNwA4
import Derived.Shelf.Strings.Builder1
import Derived.Shelf.Strings.Builder2
import Derived.Shelf.Strings.OnBuilder
import Derived.Shelf.Small.Bits
import Derived.Shelf.Strings.BuilderF
import Derived.Shelf.Strings.BuilderK
import Derived.Shelf.Strconv.Itoa0
import Derived.Shelf.Strings.Prefix
import Derived.Shelf.Bits.Mul64
import Derived.Shelf.Strings.Repeat
import Derived.Shelf.Slices.Reverse
import Derived.Ground.Names2Prog
import Derived.Shelf.Slices.Clone
import Derived.Shelf.Slices.Cells
import Derived.Ground.SlgnProg
import Derived.Shelf.SlicesE.Clone
import Derived.Test.YtjfpnnmagnljnaaProg
section
/-
  DERIVED: THE SHELF's CONTRACTS AT THIS DUMP, IN PLAIN WORDS (tools/lay-plain.mjs out of 'TryShelf.lean', which tools/lay-shelf.mjs wrote): THE SAME DECLARATIONS UNDER THE SAME NAMES: 'import', 'namespace', 'open', 'def', 'theorem' AND NOTHING ELSE: no command of the shelf's: FOR A HAND-IN. Each laying: the table of numbers ('.._ren') and one theorem, a field a fact of the dump's own or the kernel's comparison; each contract: ONE APPLICATION.
-/
namespace Go.Proofs
open Go.Shelf
def Try.lays170_ren : Go.Shelf.Ren := ⟨fun | 170 => 72 | n => n, fun | 70 => 74 | 3 => 3 | 0 => 0 | 72 => 77 | 37 => 75 | 5 => 5 | n => n, fun | n => n⟩
theorem Try.lays170 : Go.Proofs.Lays.n170 Try.prog Try.lays170_ren := {
  mixed := by kernel_rfl
  f170 := Try.func72.trans (congrArg some (by kernel_rfl))
  t0 := Try.underlying0
  a0 := Try.isAgg0
  z0 := Try.sizeOf0
  v0 := Try.zeroValue0
  t3 := Try.underlying3
  a3 := Try.isAgg3
  z3 := Try.sizeOf3
  v3 := Try.zeroValue3
  t37 := Try.underlying75
  a37 := Try.isAgg75
  z37 := Try.sizeOf75
  v37 := Try.zeroValue75
  t70 := Try.underlying74
  a70 := Try.isAgg74
  z70 := Try.sizeOf74
  v70 := Try.zeroValue74
  t72 := Try.underlying77
  a72 := Try.isAgg77
  z72 := Try.sizeOf77
  v72 := Try.zeroValue77 }
open Go.RowKit in
/-- (*strings.Builder).Len: "Len returns the number of accumulated bytes; b.Len() == len(b.String()).": the world is as it was. (LAID: no walk: one application.) -/
theorem Try.Builder_Len (B b : Nat) (bs : List Value) (w : World) (h : Lib.IsBuilder 77 5 B b bs w) :
    Calls Try.prog 72 #[.pointer (some ⟨b, 0, none⟩)] w fun e w' => e = .returned (.int .i64 bs.length) ∧ w' = w := Any.Builder_Len Try.lays170 B b bs w h
def Try.lays169_ren : Go.Shelf.Ren := ⟨fun | 169 => 41 | n => n, fun | 70 => 74 | 9 => 9 | 0 => 0 | 72 => 77 | 37 => 75 | 127 => 103 | 3 => 3 | 5 => 5 | n => n, fun | n => n⟩
theorem Try.lays169 : Go.Proofs.Lays.n169 Try.prog Try.lays169_ren := {
  mixed := by kernel_rfl
  f169 := Try.func41.trans (congrArg some (by kernel_rfl))
  t0 := Try.underlying0
  a0 := Try.isAgg0
  z0 := Try.sizeOf0
  v0 := Try.zeroValue0
  t3 := Try.underlying3
  a3 := Try.isAgg3
  z3 := Try.sizeOf3
  v3 := Try.zeroValue3
  t9 := Try.underlying9
  a9 := Try.isAgg9
  z9 := Try.sizeOf9
  v9 := Try.zeroValue9
  t37 := Try.underlying75
  a37 := Try.isAgg75
  z37 := Try.sizeOf75
  v37 := Try.zeroValue75
  t70 := Try.underlying74
  a70 := Try.isAgg74
  z70 := Try.sizeOf74
  v70 := Try.zeroValue74
  t72 := Try.underlying77
  a72 := Try.isAgg77
  z72 := Try.sizeOf77
  v72 := Try.zeroValue77
  t127 := Try.underlying103
  a127 := Try.isAgg103
  z127 := Try.sizeOf103
  v127 := Try.zeroValue103 }
theorem Try.Builder_Extra_169 : Builder.Extra Try.prog Try.lays169_ren := {
  sizeBuilder := by kernel_rfl
  liesBuilder := by kernel_rfl
  t5 := Try.underlying5
  a5 := Try.isAgg5
  z5 := Try.sizeOf5
  v5 := Try.zeroValue5
  infoByte := by kernel_rfl
  cellsByte := by kernel_rfl
  sizeByte := by kernel_rfl
  neB5 := by decide }
open Go.RowKit in
/-- (*strings.Builder).String: "String returns the accumulated string.": OF A BUILDER THAT HOLDS AT LEAST ONE BYTE. ✋ THE MODEL FREEZES THOSE BYTES IN THE BUFFER (unsafe.String): a later write INTO them ends the model's run without an answer; a later append BEHIND them goes on. The statement's order of evaluation is drawn: one draw. (LAID: no walk: one application.) -/
theorem Try.Builder_String (B b : Nat) (l : List UInt8) (w : World) (h : Lib.IsBuilder 77 5 B b (Lib.byteCells l) w) (h0 : l ≠ []) :
    Calls Try.prog 41 #[.pointer (some ⟨b, 0, none⟩)] w fun e w' => e = .returned (.string ⟨l.toArray⟩) ∧ Below B w w' := Any.Builder_String Try.lays169 Try.Builder_Extra_169 B b l w h h0
open Go.RowKit in
/-- (*strings.Builder).String OF A BUILDER THAT HOLDS NO BYTE: the empty string. (Its buffer is nil, or a row of which it has taken nothing yet; where that row has NO capacity the model lays one new block for unsafe.SliceData's 'some address'.) One draw. (LAID: no walk: one application.) -/
theorem Try.Builder_String_empty (B b : Nat) (w : World) (h : Lib.IsBuilder 77 5 B b [] w) (hBw : B ≤ w.heap.size) :
    Calls Try.prog 41 #[.pointer (some ⟨b, 0, none⟩)] w fun e w' => e = .returned (.string ⟨#[]⟩) ∧ Below B w w' := Any.Builder_String_empty Try.lays169 Try.Builder_Extra_169 B b w h hBw
open Go.RowKit in
/-- (*strings.Builder).String: "String returns the accumulated string.": WHATEVER THE BUILDER HOLDS. (LAID: no walk: one application.) -/
theorem Try.Builder_String_any (B b : Nat) (l : List UInt8) (w : World) (h : Lib.IsBuilder 77 5 B b (Lib.byteCells l) w) (hBw : B ≤ w.heap.size) :
    Calls Try.prog 41 #[.pointer (some ⟨b, 0, none⟩)] w fun e w' => e = .returned (.string ⟨l.toArray⟩) ∧ Below B w w' := Any.Builder_String_any Try.lays169 Try.Builder_Extra_169 B b l w h hBw
def Try.lays241_ren : Go.Shelf.Ren := ⟨fun | 241 => 87 | 277 => 93 | n => n, fun | 70 => 74 | 3 => 3 | 0 => 0 | 72 => 77 | 37 => 75 | 5 => 5 | n => n, fun | n => n⟩
theorem Try.lays241 : Go.Proofs.Lays.n241 Try.prog Try.lays241_ren := {
  mixed := by kernel_rfl
  f241 := Try.func87.trans (congrArg some (by kernel_rfl))
  f277 := Try.func93.trans (congrArg some (by kernel_rfl))
  t0 := Try.underlying0
  a0 := Try.isAgg0
  z0 := Try.sizeOf0
  v0 := Try.zeroValue0
  t3 := Try.underlying3
  a3 := Try.isAgg3
  z3 := Try.sizeOf3
  v3 := Try.zeroValue3
  t37 := Try.underlying75
  a37 := Try.isAgg75
  z37 := Try.sizeOf75
  v37 := Try.zeroValue75
  t70 := Try.underlying74
  a70 := Try.isAgg74
  z70 := Try.sizeOf74
  v70 := Try.zeroValue74
  t72 := Try.underlying77
  a72 := Try.isAgg77
  z72 := Try.sizeOf77
  v72 := Try.zeroValue77 }
theorem Try.Builder_Extra_241 : Builder.Extra Try.prog Try.lays241_ren := {
  sizeBuilder := by kernel_rfl
  liesBuilder := by kernel_rfl
  t5 := Try.underlying5
  a5 := Try.isAgg5
  z5 := Try.sizeOf5
  v5 := Try.zeroValue5
  infoByte := by kernel_rfl
  cellsByte := by kernel_rfl
  sizeByte := by kernel_rfl
  neB5 := by decide }
open Go.RowKit in
/-- (*strings.Builder).grow (no doc but "grow copies the buffer to a new, larger buffer so that there are at least n bytes of capacity beyond len(b.buf)."): AT A BUILDER WITHOUT A BUFFER: a new row of whatever bytes for its buffer, none of them its own yet. Three draws. (LAID: no walk: one application.) -/
theorem Try.Builder_grow_fresh (B b n : Nat) (w : World) (hB : B ≤ b) (hbk : w.heap[b]? = some (.cells #[.pointer (some ⟨b, 0, none⟩), .slice none 0 0] 77 (0, 0))) (hBw : B ≤ w.heap.size) (hn : n ≤ 281474976710656) :
    Calls Try.prog 87 #[.pointer (some ⟨b, 0, none⟩), .int .i64 n] w fun e w' => e = .returned (.tuple #[]) ∧ (Lib.BuilderAt 77 5 B b (.pointer (some ⟨b, 0, none⟩)) [] w' ∧ Below B w w') := Any.Builder_grow_fresh Try.lays241 Try.Builder_Extra_241 B b n w hB hbk hBw hn
def Try.lays165_ren : Go.Shelf.Ren := ⟨fun | 165 => 71 | 240 => 64 | 241 => 87 | 276 => 83 | 277 => 93 | n => n, fun | 70 => 74 | 3 => 3 | 0 => 0 | 4 => 4 | 9 => 9 | 20 => 20 | 72 => 77 | 37 => 75 | 164 => 120 | 5 => 5 | n => n, fun | n => n⟩
theorem Try.lays165 : Go.Proofs.Lays.n165 Try.prog Try.lays165_ren := {
  mixed := by kernel_rfl
  f165 := Try.func71.trans (congrArg some (by kernel_rfl))
  f240 := Try.func64.trans (congrArg some (by kernel_rfl))
  f241 := Try.func87.trans (congrArg some (by kernel_rfl))
  f276 := Try.func83.trans (congrArg some (by kernel_rfl))
  f277 := Try.func93.trans (congrArg some (by kernel_rfl))
  t0 := Try.underlying0
  a0 := Try.isAgg0
  z0 := Try.sizeOf0
  v0 := Try.zeroValue0
  t3 := Try.underlying3
  a3 := Try.isAgg3
  z3 := Try.sizeOf3
  v3 := Try.zeroValue3
  t4 := Try.underlying4
  a4 := Try.isAgg4
  z4 := Try.sizeOf4
  v4 := Try.zeroValue4
  t9 := Try.underlying9
  a9 := Try.isAgg9
  z9 := Try.sizeOf9
  v9 := Try.zeroValue9
  t20 := Try.underlying20
  a20 := Try.isAgg20
  z20 := Try.sizeOf20
  v20 := Try.zeroValue20
  t37 := Try.underlying75
  a37 := Try.isAgg75
  z37 := Try.sizeOf75
  v37 := Try.zeroValue75
  t70 := Try.underlying74
  a70 := Try.isAgg74
  z70 := Try.sizeOf74
  v70 := Try.zeroValue74
  t72 := Try.underlying77
  a72 := Try.isAgg77
  z72 := Try.sizeOf77
  v72 := Try.zeroValue77
  t164 := Try.underlying120
  a164 := Try.isAgg120
  z164 := Try.sizeOf120
  v164 := Try.zeroValue120 }
theorem Try.Builder_Extra_165 : Builder.Extra Try.prog Try.lays165_ren := {
  sizeBuilder := by kernel_rfl
  liesBuilder := by kernel_rfl
  t5 := Try.underlying5
  a5 := Try.isAgg5
  z5 := Try.sizeOf5
  v5 := Try.zeroValue5
  infoByte := by kernel_rfl
  cellsByte := by kernel_rfl
  sizeByte := by kernel_rfl
  neB5 := by decide }
open Go.RowKit in
/-- (*strings.Builder).Grow AT A BUILDER THAT HAS NOT BEEN WRITTEN ('var b strings.Builder; b.Grow(n)'): "Grow grows b's capacity, if necessary, to guarantee space for another n bytes.": it holds no byte behind it as before it. (LAID: no walk: one application.) -/
theorem Try.Builder_Grow_fresh (B b n : Nat) (w : World) (hB : B ≤ b) (hbk : w.heap[b]? = some (.cells #[.pointer none, .slice none 0 0] 77 (0, 0))) (hBw : B ≤ w.heap.size) (hn : n ≤ 281474976710656) :
    Calls Try.prog 71 #[.pointer (some ⟨b, 0, none⟩), .int .i64 n] w fun e w' => e = .returned (.tuple #[]) ∧ (Lib.BuilderAt 77 5 B b (.pointer (some ⟨b, 0, none⟩)) [] w' ∧ Below B w w') := Any.Builder_Grow_fresh Try.lays165 Try.Builder_Extra_165 B b n w hB hbk hBw hn
def Try.lays156_ren : Go.Shelf.Ren := ⟨fun | 156 => 65 | 165 => 71 | 166 => 39 | 169 => 41 | 240 => 64 | 241 => 87 | 276 => 83 | 277 => 93 | n => n, fun | 31 => 40 | 9 => 9 | 3 => 3 | 4 => 4 | 0 => 0 | 20 => 20 | 72 => 77 | 76 => 80 | 70 => 74 | 37 => 75 | 75 => 79 | 127 => 103 | 164 => 120 | 5 => 5 | 80 => 82 | n => n, fun | n => n⟩
theorem Try.lays156 : Go.Proofs.Lays.n156 Try.prog Try.lays156_ren := {
  mixed := by kernel_rfl
  f156 := Try.func65.trans (congrArg some (by kernel_rfl))
  f165 := Try.func71.trans (congrArg some (by kernel_rfl))
  f166 := Try.func39.trans (congrArg some (by kernel_rfl))
  f169 := Try.func41.trans (congrArg some (by kernel_rfl))
  f240 := Try.func64.trans (congrArg some (by kernel_rfl))
  f241 := Try.func87.trans (congrArg some (by kernel_rfl))
  f276 := Try.func83.trans (congrArg some (by kernel_rfl))
  f277 := Try.func93.trans (congrArg some (by kernel_rfl))
  t0 := Try.underlying0
  a0 := Try.isAgg0
  z0 := Try.sizeOf0
  v0 := Try.zeroValue0
  t3 := Try.underlying3
  a3 := Try.isAgg3
  z3 := Try.sizeOf3
  v3 := Try.zeroValue3
  t4 := Try.underlying4
  a4 := Try.isAgg4
  z4 := Try.sizeOf4
  v4 := Try.zeroValue4
  t9 := Try.underlying9
  a9 := Try.isAgg9
  z9 := Try.sizeOf9
  v9 := Try.zeroValue9
  t20 := Try.underlying20
  a20 := Try.isAgg20
  z20 := Try.sizeOf20
  v20 := Try.zeroValue20
  t31 := Try.underlying40
  a31 := Try.isAgg40
  z31 := Try.sizeOf40
  v31 := Try.zeroValue40
  t37 := Try.underlying75
  a37 := Try.isAgg75
  z37 := Try.sizeOf75
  v37 := Try.zeroValue75
  t70 := Try.underlying74
  a70 := Try.isAgg74
  z70 := Try.sizeOf74
  v70 := Try.zeroValue74
  t72 := Try.underlying77
  a72 := Try.isAgg77
  z72 := Try.sizeOf77
  v72 := Try.zeroValue77
  t75 := Try.underlying79
  a75 := Try.isAgg79
  z75 := Try.sizeOf79
  v75 := Try.zeroValue79
  t76 := Try.underlying80
  a76 := Try.isAgg80
  z76 := Try.sizeOf80
  v76 := Try.zeroValue80
  t127 := Try.underlying103
  a127 := Try.isAgg103
  z127 := Try.sizeOf103
  v127 := Try.zeroValue103
  t164 := Try.underlying120
  a164 := Try.isAgg120
  z164 := Try.sizeOf120
  v164 := Try.zeroValue120 }
theorem Try.Builder_Extra_156 : Builder.Extra Try.prog Try.lays156_ren := {
  sizeBuilder := by kernel_rfl
  liesBuilder := by kernel_rfl
  t5 := Try.underlying5
  a5 := Try.isAgg5
  z5 := Try.sizeOf5
  v5 := Try.zeroValue5
  infoByte := by kernel_rfl
  cellsByte := by kernel_rfl
  sizeByte := by kernel_rfl
  neB5 := by decide }
open Go.RowKit in
/-- No element: the empty string; the world is as it was. (Whatever the slice's address and capacity: a nil slice too.) (LAID: no walk: one application.) -/
theorem Try.strings_Join_none (a : Option Addr) (c : Nat) (sep : ByteArray) (w : World) :
    Calls Try.prog 65 #[.slice a 0 c, .string sep] w fun e w' => e = .returned (.string ⟨#[]⟩) ∧ w' = w := Any.strings_Join_none Try.lays156 Try.Builder_Extra_156 a c sep w
open Go.RowKit in
/-- strings.Join: "Join concatenates the elements of its first argument to create a single string. The separator string sep is placed between elements in the resulting string.": HOWEVER MANY ELEMENTS. Below the heap's end the world is as it was. (LAID: no walk: one application.) -/
theorem Try.strings_Join (bk o c : Nat) (xs : List ByteArray) (sep : ByteArray) (w : World) (hcells : ∀ (j : Nat) x, xs[j]? = some x → w.cell? ⟨bk, o + j, none⟩ = some (.string x)) (hbk : bk < w.heap.size) (hN : xs.length ≤ 140737488355328) (hcap : xs.length ≤ c) (hlen : (Lib.join (xs.map (·.data.toList)) sep.data.toList).length ≤ 140737488355328) :
    Calls Try.prog 65 #[.slice (some ⟨bk, o, none⟩) xs.length c, .string sep] w fun e w' => e = .returned (.string ⟨(Lib.join (xs.map (·.data.toList)) sep.data.toList).toArray⟩) ∧ Below w.heap.size w w' := Any.strings_Join Try.lays156 Try.Builder_Extra_156 bk o c xs sep w hcells hbk hN hcap hlen
def Try.lays128_ren : Go.Shelf.Ren := ⟨fun | 128 => 102 | n => n, fun | 51 => 122 | 3 => 3 | 4 => 4 | 46 => 41 | 5 => 5 | 9 => 9 | n => n, fun | n => n⟩
theorem Try.lays128 : Go.Proofs.Lays.n128 Try.prog Try.lays128_ren := {
  mixed := by kernel_rfl
  f128 := Try.func102.trans (congrArg some (by kernel_rfl))
  t3 := Try.underlying3
  a3 := Try.isAgg3
  z3 := Try.sizeOf3
  v3 := Try.zeroValue3
  t4 := Try.underlying4
  a4 := Try.isAgg4
  z4 := Try.sizeOf4
  v4 := Try.zeroValue4
  t5 := Try.underlying5
  a5 := Try.isAgg5
  z5 := Try.sizeOf5
  v5 := Try.zeroValue5
  t9 := Try.underlying9
  a9 := Try.isAgg9
  z9 := Try.sizeOf9
  v9 := Try.zeroValue9
  t46 := Try.underlying41
  a46 := Try.isAgg41
  z46 := Try.sizeOf41
  v46 := Try.zeroValue41
  t51 := Try.underlying122
  a51 := Try.isAgg122
  z51 := Try.sizeOf122
  v51 := Try.zeroValue122 }
/-- bits.Len32: "Len32 returns the minimum number of bits required to represent x; the result is 0 for x == 0.": IT RETURNS 'Lib.bitLen x'; the world is as it was. ('h0', 'h1': x is a uint32.) (LAID: no walk: one application.) -/
theorem Try.bits_Len32 (x : Int) (w : World) (h0 : 0 ≤ x) (h1 : x ≤ 4294967295) :
    Calls Try.prog 102 #[.int .u32 x] w fun e w' => e = .returned (.int .i64 (Lib.bitLen x.toNat)) ∧ w' = w := Any.bits_Len32 Try.lays128 x w h0 h1
def Try.lays125_ren : Go.Shelf.Ren := ⟨fun | 125 => 89 | 128 => 102 | 129 => 103 | n => n, fun | 46 => 41 | 3 => 3 | 51 => 122 | 53 => 125 | 4 => 4 | 5 => 5 | 9 => 9 | n => n, fun | n => n⟩
theorem Try.lays125 : Go.Proofs.Lays.n125 Try.prog Try.lays125_ren := {
  mixed := by kernel_rfl
  f125 := Try.func89.trans (congrArg some (by kernel_rfl))
  f128 := Try.func102.trans (congrArg some (by kernel_rfl))
  f129 := Try.func103.trans (congrArg some (by kernel_rfl))
  t3 := Try.underlying3
  a3 := Try.isAgg3
  z3 := Try.sizeOf3
  v3 := Try.zeroValue3
  t4 := Try.underlying4
  a4 := Try.isAgg4
  z4 := Try.sizeOf4
  v4 := Try.zeroValue4
  t5 := Try.underlying5
  a5 := Try.isAgg5
  z5 := Try.sizeOf5
  v5 := Try.zeroValue5
  t9 := Try.underlying9
  a9 := Try.isAgg9
  z9 := Try.sizeOf9
  v9 := Try.zeroValue9
  t46 := Try.underlying41
  a46 := Try.isAgg41
  z46 := Try.sizeOf41
  v46 := Try.zeroValue41
  t51 := Try.underlying122
  a51 := Try.isAgg122
  z51 := Try.sizeOf122
  v51 := Try.zeroValue122
  t53 := Try.underlying125
  a53 := Try.isAgg125
  z53 := Try.sizeOf125
  v53 := Try.zeroValue125 }
/-- bits.Len: "Len returns the minimum number of bits required to represent x; the result is 0 for x == 0.": IT RETURNS 'Lib.bitLen x'; the world is as it was. (A uint has 64 bits in the model.) ITS CALLEE bits.Len64 IS MET BY ITS OWN CONTRACT OFF THE SHELF (lay that first). (LAID: no walk: one application.) -/
theorem Try.bits_Len (x : Int) (w : World) (h0 : 0 ≤ x) (h1 : x ≤ 18446744073709551615) :
    Calls Try.prog 89 #[.int .u64 x] w fun e w' => e = .returned (.int .i64 (Lib.bitLen x.toNat)) ∧ w' = w := Any.bits_Len Try.lays125 x w h0 h1
open Go.RowKit in
/-- (*strings.Builder).Len: "Len returns the number of accumulated bytes; b.Len() == len(b.String()).": the world is as it was. (THE FORM '_f': 'Lib.IsBuilderF'.) (LAID: no walk: one application.) -/
theorem Try.Builder_Len_f (B b : Nat) (bs : List Value) (w : World) (h : Lib.IsBuilderF 77 5 B b bs w) :
    Calls Try.prog 72 #[.pointer (some ⟨b, 0, none⟩)] w fun e w' => e = .returned (.int .i64 bs.length) ∧ w' = w := Any.Builder_Len_f Try.lays170 B b bs w h
open Go.RowKit in
/-- (*strings.Builder).String: "String returns the accumulated string.": OF A BUILDER THAT HOLDS AT LEAST ONE BYTE. ✋ THE MODEL FREEZES THOSE BYTES IN THE BUFFER (unsafe.String): a later write INTO them ends the model's run without an answer; a later append BEHIND them goes on. The statement's order of evaluation is drawn: one draw. THE FORM '_f': IT SAYS BESIDES THAT THE BUILDER IS A BUILDER STILL ('Lib.IsBuilderF', the same bytes): SO IT CAN BE WRITTEN ON: 'b.WriteString(b.String()[:k])'. (LAID: no walk: one application.) -/
theorem Try.Builder_String_f (B b : Nat) (l : List UInt8) (w : World) (h : Lib.IsBuilderF 77 5 B b (Lib.byteCells l) w) (h0 : l ≠ []) :
    Calls Try.prog 41 #[.pointer (some ⟨b, 0, none⟩)] w fun e w' => e = .returned (.string ⟨l.toArray⟩) ∧ (Lib.IsBuilderF 77 5 B b (Lib.byteCells l) w' ∧ Below B w w') := Any.Builder_String_f Try.lays169 Try.Builder_Extra_169 B b l w h h0
open Go.RowKit in
/-- (*strings.Builder).String OF A BUILDER THAT HOLDS NO BYTE: the empty string; THE FORM '_f': a builder still. (LAID: no walk: one application.) -/
theorem Try.Builder_String_empty_f (B b : Nat) (w : World) (h : Lib.IsBuilderF 77 5 B b [] w) (hBw : B ≤ w.heap.size) :
    Calls Try.prog 41 #[.pointer (some ⟨b, 0, none⟩)] w fun e w' => e = .returned (.string ⟨#[]⟩) ∧ (Lib.IsBuilderF 77 5 B b [] w' ∧ Below B w w') := Any.Builder_String_empty_f Try.lays169 Try.Builder_Extra_169 B b w h hBw
open Go.RowKit in
/-- (*strings.Builder).String: "String returns the accumulated string.": WHATEVER THE BUILDER HOLDS; THE FORM '_f': OF A BUILDER THAT MAY HAVE BEEN READ BEFORE; AND IT IS A BUILDER STILL, holding the same bytes: it can be written on. (LAID: no walk: one application.) -/
theorem Try.Builder_String_any_f (B b : Nat) (l : List UInt8) (w : World) (h : Lib.IsBuilderF 77 5 B b (Lib.byteCells l) w) (hBw : B ≤ w.heap.size) :
    Calls Try.prog 41 #[.pointer (some ⟨b, 0, none⟩)] w fun e w' => e = .returned (.string ⟨l.toArray⟩) ∧ (Lib.IsBuilderF 77 5 B b (Lib.byteCells l) w' ∧ Below B w w') := Any.Builder_String_any_f Try.lays169 Try.Builder_Extra_169 B b l w h hBw
open Go.RowKit in
/-- (*strings.Builder).String: "String returns the accumulated string.": OF A BUILDER THAT HOLDS AT LEAST ONE BYTE. ✋ THE MODEL FREEZES THOSE BYTES IN THE BUFFER (unsafe.String): a later write INTO them ends the model's run without an answer; a later append BEHIND them goes on. The statement's order of evaluation is drawn: one draw. THE FORM '_k': OVER 'Lib.IsBuilderF' (a builder that 'String()' may have read), AND WITH THE FRAME THAT REACHES ABOVE THE BUILDER: 'Lib.OthersKept': every block that is not b and is no row of uint8's stands as it stood: the iterator of a range among them. (LAID: no walk: one application.) -/
theorem Try.Builder_String_k (B b : Nat) (l : List UInt8) (w : World) (h : Lib.IsBuilderF 77 5 B b (Lib.byteCells l) w) (h0 : l ≠ []) :
    Calls Try.prog 41 #[.pointer (some ⟨b, 0, none⟩)] w fun e w' => e = .returned (.string ⟨l.toArray⟩) ∧ (Lib.IsBuilderF 77 5 B b (Lib.byteCells l) w' ∧ Below B w w' ∧ Lib.OthersKept 5 (some b) w w') := Any.Builder_String_k Try.lays169 Try.Builder_Extra_169 B b l w h h0
open Go.RowKit in
/-- (*strings.Builder).String OF A BUILDER THAT HOLDS NO BYTE: the empty string; THE FORM '_k': OVER 'Lib.IsBuilderF' (a builder that 'String()' may have read), AND WITH THE FRAME THAT REACHES ABOVE THE BUILDER: 'Lib.OthersKept': every block that is not b and is no row of uint8's stands as it stood: the iterator of a range among them. (LAID: no walk: one application.) -/
theorem Try.Builder_String_empty_k (B b : Nat) (w : World) (h : Lib.IsBuilderF 77 5 B b [] w) (hBw : B ≤ w.heap.size) :
    Calls Try.prog 41 #[.pointer (some ⟨b, 0, none⟩)] w fun e w' => e = .returned (.string ⟨#[]⟩) ∧ (Lib.IsBuilderF 77 5 B b [] w' ∧ Below B w w' ∧ Lib.OthersKept 5 (some b) w w') := Any.Builder_String_empty_k Try.lays169 Try.Builder_Extra_169 B b w h hBw
open Go.RowKit in
/-- (*strings.Builder).String: "String returns the accumulated string.": WHATEVER THE BUILDER HOLDS; THE FORM '_k': OVER 'Lib.IsBuilderF' (a builder that 'String()' may have read), AND WITH THE FRAME THAT REACHES ABOVE THE BUILDER: 'Lib.OthersKept': every block that is not b and is no row of uint8's stands as it stood: the iterator of a range among them. (LAID: no walk: one application.) -/
theorem Try.Builder_String_any_k (B b : Nat) (l : List UInt8) (w : World) (h : Lib.IsBuilderF 77 5 B b (Lib.byteCells l) w) (hBw : B ≤ w.heap.size) :
    Calls Try.prog 41 #[.pointer (some ⟨b, 0, none⟩)] w fun e w' => e = .returned (.string ⟨l.toArray⟩) ∧ (Lib.IsBuilderF 77 5 B b (Lib.byteCells l) w' ∧ Below B w w' ∧ Lib.OthersKept 5 (some b) w w') := Any.Builder_String_any_k Try.lays169 Try.Builder_Extra_169 B b l w h hBw
def Try.lays129_ren : Go.Shelf.Ren := ⟨fun | 129 => 103 | n => n, fun | 53 => 125 | 3 => 3 | 4 => 4 | 46 => 41 | 5 => 5 | 9 => 9 | n => n, fun | n => n⟩
theorem Try.lays129 : Go.Proofs.Lays.n129 Try.prog Try.lays129_ren := {
  mixed := by kernel_rfl
  f129 := Try.func103.trans (congrArg some (by kernel_rfl))
  t3 := Try.underlying3
  a3 := Try.isAgg3
  z3 := Try.sizeOf3
  v3 := Try.zeroValue3
  t4 := Try.underlying4
  a4 := Try.isAgg4
  z4 := Try.sizeOf4
  v4 := Try.zeroValue4
  t5 := Try.underlying5
  a5 := Try.isAgg5
  z5 := Try.sizeOf5
  v5 := Try.zeroValue5
  t9 := Try.underlying9
  a9 := Try.isAgg9
  z9 := Try.sizeOf9
  v9 := Try.zeroValue9
  t46 := Try.underlying41
  a46 := Try.isAgg41
  z46 := Try.sizeOf41
  v46 := Try.zeroValue41
  t53 := Try.underlying125
  a53 := Try.isAgg125
  z53 := Try.sizeOf125
  v53 := Try.zeroValue125 }
/-- bits.Len64: "Len64 returns the minimum number of bits required to represent x; the result is 0 for x == 0.": IT RETURNS 'Lib.bitLen x'; the world is as it was. ('h0', 'h1': x is a uint64.) (LAID: no walk: one application.) -/
theorem Try.bits_Len64 (x : Int) (w : World) (h0 : 0 ≤ x) (h1 : x ≤ 18446744073709551615) :
    Calls Try.prog 103 #[.int .u64 x] w fun e w' => e = .returned (.int .i64 (Lib.bitLen x.toNat)) ∧ w' = w := Any.bits_Len64 Try.lays129 x w h0 h1
def Try.lays206_ren : Go.Shelf.Ren := ⟨fun | 206 => 86 | n => n, fun | 9 => 9 | 4 => 4 | 3 => 3 | n => n, fun | n => n⟩
theorem Try.lays206 : Go.Proofs.Lays.n206 Try.prog Try.lays206_ren := {
  mixed := by kernel_rfl
  f206 := Try.func86.trans (congrArg some (by kernel_rfl))
  t3 := Try.underlying3
  a3 := Try.isAgg3
  z3 := Try.sizeOf3
  v3 := Try.zeroValue3
  t4 := Try.underlying4
  a4 := Try.isAgg4
  z4 := Try.sizeOf4
  v4 := Try.zeroValue4
  t9 := Try.underlying9
  a9 := Try.isAgg9
  z9 := Try.sizeOf9
  v9 := Try.zeroValue9 }
open Go.RowKit Go.Lib in
/-- internal/stringslite.HasPrefix (what strings.HasPrefix calls). (LAID: no walk: one application.) -/
theorem Try.stringslite_HasPrefix (s p : ByteArray) (w : World) :
    Calls Try.prog 86 #[.string s, .string p] w fun e w' => e = .returned (.bool (Lib.hasPrefix s.data.toList p.data.toList)) ∧ w' = w := Any.stringslite_HasPrefix Try.lays206 s p w
def Try.lays99_ren : Go.Shelf.Ren := ⟨fun | 99 => 70 | 206 => 86 | n => n, fun | 9 => 9 | 4 => 4 | 3 => 3 | n => n, fun | n => n⟩
theorem Try.lays99 : Go.Proofs.Lays.n99 Try.prog Try.lays99_ren := {
  mixed := by kernel_rfl
  f99 := Try.func70.trans (congrArg some (by kernel_rfl))
  f206 := Try.func86.trans (congrArg some (by kernel_rfl))
  t3 := Try.underlying3
  a3 := Try.isAgg3
  z3 := Try.sizeOf3
  v3 := Try.zeroValue3
  t4 := Try.underlying4
  a4 := Try.isAgg4
  z4 := Try.sizeOf4
  v4 := Try.zeroValue4
  t9 := Try.underlying9
  a9 := Try.isAgg9
  z9 := Try.sizeOf9
  v9 := Try.zeroValue9 }
open Go.RowKit Go.Lib in
/-- strings.HasPrefix: "HasPrefix reports whether the string s begins with prefix.": IT RETURNS 'Lib.hasPrefix s prefix'; the world is as it was. (LAID: no walk: one application.) -/
theorem Try.strings_HasPrefix (s p : ByteArray) (w : World) :
    Calls Try.prog 70 #[.string s, .string p] w fun e w' => e = .returned (.bool (Lib.hasPrefix s.data.toList p.data.toList)) ∧ w' = w := Any.strings_HasPrefix Try.lays99 s p w
def Try.lays264_ren : Go.Shelf.Ren := ⟨fun | 264 => 85 | n => n, fun | 53 => 125 | 46 => 41 | n => n, fun | n => n⟩
theorem Try.lays264 : Go.Proofs.Lays.n264 Try.prog Try.lays264_ren := {
  mixed := by kernel_rfl
  f264 := Try.func85.trans (congrArg some (by kernel_rfl))
  t46 := Try.underlying41
  a46 := Try.isAgg41
  z46 := Try.sizeOf41
  v46 := Try.zeroValue41
  t53 := Try.underlying125
  a53 := Try.isAgg125
  z53 := Try.sizeOf125
  v53 := Try.zeroValue125 }
open Go.RowKit Go.Lib in
theorem Try.bits_Mul64 (x y : Nat) (hx : x < 18446744073709551616) (hy : y < 18446744073709551616) (w : World) :
    Calls Try.prog 85 #[.int .u64 x, .int .u64 y] w fun e w' => e = .returned (.tuple #[.int .u64 ((x * y / 18446744073709551616 : Nat) : Int), .int .u64 ((x * y % 18446744073709551616 : Nat) : Int)]) ∧ w' = w := Any.bits_Mul64 Try.lays264 x y hx hy w
def Try.lays212_ren : Go.Shelf.Ren := ⟨fun | 212 => 69 | 263 => 84 | 264 => 85 | n => n, fun | 46 => 41 | 51 => 122 | 146 => 123 | 53 => 125 | 148 => 126 | n => n, fun | n => n⟩
theorem Try.lays212 : Go.Proofs.Lays.n212 Try.prog Try.lays212_ren := {
  mixed := by kernel_rfl
  f212 := Try.func69.trans (congrArg some (by kernel_rfl))
  f263 := Try.func84.trans (congrArg some (by kernel_rfl))
  f264 := Try.func85.trans (congrArg some (by kernel_rfl))
  t46 := Try.underlying41
  a46 := Try.isAgg41
  z46 := Try.sizeOf41
  v46 := Try.zeroValue41
  t51 := Try.underlying122
  a51 := Try.isAgg122
  z51 := Try.sizeOf122
  v51 := Try.zeroValue122
  t53 := Try.underlying125
  a53 := Try.isAgg125
  z53 := Try.sizeOf125
  v53 := Try.zeroValue125
  t146 := Try.underlying123
  a146 := Try.isAgg123
  z146 := Try.sizeOf123
  v146 := Try.zeroValue123
  t148 := Try.underlying126
  a148 := Try.isAgg126
  z148 := Try.sizeOf126
  v148 := Try.zeroValue126 }
open Go.RowKit Go.Lib in
/-- math/bits.Mul: "Mul returns the full-width product of x and y": on a machine of 64 bits: Mul64's. (LAID: no walk: one application.) -/
theorem Try.bits_Mul (x y : Nat) (hx : x < 18446744073709551616) (hy : y < 18446744073709551616) (w : World) :
    Calls Try.prog 69 #[.int .u64 x, .int .u64 y] w fun e w' => e = .returned (.tuple #[.int .u64 ((x * y / 18446744073709551616 : Nat) : Int), .int .u64 ((x * y % 18446744073709551616 : Nat) : Int)]) ∧ w' = w := Any.bits_Mul Try.lays212 x y hx hy w
def Try.lays105_ren : Go.Shelf.Ren := ⟨fun | 105 => 46 | 212 => 69 | 99 => 70 | 165 => 71 | 166 => 39 | 170 => 72 | 169 => 41 | 263 => 84 | 264 => 85 | 206 => 86 | 240 => 64 | 241 => 87 | 276 => 83 | 277 => 93 | n => n, fun | 9 => 9 | 3 => 3 | 4 => 4 | 20 => 20 | 0 => 0 | 46 => 41 | 109 => 108 | 5 => 5 | 72 => 77 | 76 => 80 | 51 => 122 | 146 => 123 | 53 => 125 | 148 => 126 | 70 => 74 | 37 => 75 | 75 => 79 | 127 => 103 | 164 => 120 | 80 => 82 | n => n, fun | n => n⟩
theorem Try.lays105 : Go.Proofs.Lays.n105 Try.prog Try.lays105_ren := {
  mixed := by kernel_rfl
  f99 := Try.func70.trans (congrArg some (by kernel_rfl))
  f105 := Try.func46.trans (congrArg some (by kernel_rfl))
  f165 := Try.func71.trans (congrArg some (by kernel_rfl))
  f166 := Try.func39.trans (congrArg some (by kernel_rfl))
  f169 := Try.func41.trans (congrArg some (by kernel_rfl))
  f170 := Try.func72.trans (congrArg some (by kernel_rfl))
  f206 := Try.func86.trans (congrArg some (by kernel_rfl))
  f212 := Try.func69.trans (congrArg some (by kernel_rfl))
  f240 := Try.func64.trans (congrArg some (by kernel_rfl))
  f241 := Try.func87.trans (congrArg some (by kernel_rfl))
  f263 := Try.func84.trans (congrArg some (by kernel_rfl))
  f264 := Try.func85.trans (congrArg some (by kernel_rfl))
  f276 := Try.func83.trans (congrArg some (by kernel_rfl))
  f277 := Try.func93.trans (congrArg some (by kernel_rfl))
  t0 := Try.underlying0
  a0 := Try.isAgg0
  z0 := Try.sizeOf0
  v0 := Try.zeroValue0
  t3 := Try.underlying3
  a3 := Try.isAgg3
  z3 := Try.sizeOf3
  v3 := Try.zeroValue3
  t4 := Try.underlying4
  a4 := Try.isAgg4
  z4 := Try.sizeOf4
  v4 := Try.zeroValue4
  t5 := Try.underlying5
  a5 := Try.isAgg5
  z5 := Try.sizeOf5
  v5 := Try.zeroValue5
  t9 := Try.underlying9
  a9 := Try.isAgg9
  z9 := Try.sizeOf9
  v9 := Try.zeroValue9
  t20 := Try.underlying20
  a20 := Try.isAgg20
  z20 := Try.sizeOf20
  v20 := Try.zeroValue20
  t37 := Try.underlying75
  a37 := Try.isAgg75
  z37 := Try.sizeOf75
  v37 := Try.zeroValue75
  t46 := Try.underlying41
  a46 := Try.isAgg41
  z46 := Try.sizeOf41
  v46 := Try.zeroValue41
  t51 := Try.underlying122
  a51 := Try.isAgg122
  z51 := Try.sizeOf122
  v51 := Try.zeroValue122
  t53 := Try.underlying125
  a53 := Try.isAgg125
  z53 := Try.sizeOf125
  v53 := Try.zeroValue125
  t70 := Try.underlying74
  a70 := Try.isAgg74
  z70 := Try.sizeOf74
  v70 := Try.zeroValue74
  t72 := Try.underlying77
  a72 := Try.isAgg77
  z72 := Try.sizeOf77
  v72 := Try.zeroValue77
  t75 := Try.underlying79
  a75 := Try.isAgg79
  z75 := Try.sizeOf79
  v75 := Try.zeroValue79
  t76 := Try.underlying80
  a76 := Try.isAgg80
  z76 := Try.sizeOf80
  v76 := Try.zeroValue80
  t109 := Try.underlying108
  a109 := Try.isAgg108
  z109 := Try.sizeOf108
  v109 := Try.zeroValue108
  t127 := Try.underlying103
  a127 := Try.isAgg103
  z127 := Try.sizeOf103
  v127 := Try.zeroValue103
  t146 := Try.underlying123
  a146 := Try.isAgg123
  z146 := Try.sizeOf123
  v146 := Try.zeroValue123
  t148 := Try.underlying126
  a148 := Try.isAgg126
  z148 := Try.sizeOf126
  v148 := Try.zeroValue126
  t164 := Try.underlying120
  a164 := Try.isAgg120
  z164 := Try.sizeOf120
  v164 := Try.zeroValue120 }
theorem Try.Builder_Extra_105 : Builder.Extra Try.prog Try.lays105_ren := {
  sizeBuilder := by kernel_rfl
  liesBuilder := by kernel_rfl
  t5 := Try.underlying5
  a5 := Try.isAgg5
  z5 := Try.sizeOf5
  v5 := Try.zeroValue5
  infoByte := by kernel_rfl
  cellsByte := by kernel_rfl
  sizeByte := by kernel_rfl
  neB5 := by decide }
open Go.RowKit Go.Lib in
/-- THE MAIN CASE: at least two copies of a string that is not empty. (LAID: no walk: one application.) -/
theorem Try.strings_Repeat_main (s : ByteArray) (c : Nat) (w : World) (hc2 : 2 ≤ c) (hc : c ≤ 9223372036854775807) (hlen : s.size * c ≤ 140737488355328) (h0 : 0 < s.size) :
    Calls Try.prog 46 #[.string s, .int .i64 c] w fun e w' => e = .returned (.string ⟨(Lib.repeatL s.data.toList c).toArray⟩) ∧ Below w.heap.size w w' := Any.strings_Repeat_main Try.lays105 Try.Builder_Extra_105 s c w hc2 hc hlen h0
open Go.RowKit Go.Lib in
theorem Try.strings_Repeat_zero (s : ByteArray) (w : World) :
    Calls Try.prog 46 #[.string s, .int .i64 0] w fun e w' => e = .returned (.string ⟨#[]⟩) ∧ w' = w := Any.strings_Repeat_zero Try.lays105 s w
open Go.RowKit Go.Lib in
theorem Try.strings_Repeat_one (s : ByteArray) (w : World) :
    Calls Try.prog 46 #[.string s, .int .i64 1] w fun e w' => e = .returned (.string s) ∧ w' = w := Any.strings_Repeat_one Try.lays105 s w
open Go.RowKit Go.Lib in
/-- Copies of the empty string. (LAID: no walk: one application.) -/
theorem Try.strings_Repeat_empty (s : ByteArray) (c : Nat) (w : World) (hc2 : 2 ≤ c) (hc : c ≤ 9223372036854775807) (h0 : s.size = 0) :
    Calls Try.prog 46 #[.string s, .int .i64 c] w fun e w' => e = .returned (.string ⟨#[]⟩) ∧ w' = w := Any.strings_Repeat_empty Try.lays105 s c w hc2 hc h0
open Go.RowKit Go.Lib in
/-- count < 0: "It panics if count is negative". (LAID: no walk: one application.) -/
theorem Try.strings_Repeat_negative (s : ByteArray) (c : Int) (w : World) (hc : c < 0) :
    Calls Try.prog 46 #[.string s, .int .i64 c] w fun e w' => e = .panicked [{ v := repeatPanic Try.lays105_ren "strings: negative Repeat count", recovered := false }] ∧ w' = w := Any.strings_Repeat_negative Try.lays105 s c w hc
open Go.RowKit Go.Lib in
/-- len(s) * count is no int: ".. or if the result of (len(s) * count) overflows". (LAID: no walk: one application.) -/
theorem Try.strings_Repeat_overflow (s : ByteArray) (c : Nat) (w : World) (hc : c ≤ 9223372036854775807) (hs : s.size ≤ 9223372036854775807) (hbig : 9223372036854775807 < s.size * c) :
    Calls Try.prog 46 #[.string s, .int .i64 c] w fun e w' => e = .panicked [{ v := repeatPanic Try.lays105_ren "strings: Repeat output length overflow", recovered := false }] ∧ w' = w := Any.strings_Repeat_overflow Try.lays105 s c w hc hs hbig
open Go.RowKit Go.Lib in
/-- **strings.Repeat: count ≥ 0, the result within one allocation: count copies of s.** (LAID: no walk: one application.) -/
theorem Try.strings_Repeat (s : ByteArray) (c : Nat) (w : World) (hc : c ≤ 9223372036854775807) (hlen : s.size * c ≤ 140737488355328) :
    Calls Try.prog 46 #[.string s, .int .i64 c] w fun e w' => e = .returned (.string ⟨(Lib.repeatL s.data.toList c).toArray⟩) ∧ Below w.heap.size w w' := Any.strings_Repeat Try.lays105 Try.Builder_Extra_105 s c w hc hlen
def Try.lays112_ren : Go.Shelf.Ren := ⟨fun | 112 => 68 | n => n, fun | 28 => 39 | 3 => 3 | 4 => 4 | 0 => 0 | n => n, fun | n => n⟩
theorem Try.lays112 : Go.Proofs.Lays.n112 Try.prog Try.lays112_ren := {
  mixed := by kernel_rfl
  f112 := Try.func68.trans (congrArg some (by kernel_rfl))
  t0 := Try.underlying0
  a0 := Try.isAgg0
  z0 := Try.sizeOf0
  v0 := Try.zeroValue0
  t3 := Try.underlying3
  a3 := Try.isAgg3
  z3 := Try.sizeOf3
  v3 := Try.zeroValue3
  t4 := Try.underlying4
  a4 := Try.isAgg4
  z4 := Try.sizeOf4
  v4 := Try.zeroValue4
  t28 := Try.underlying39
  a28 := Try.isAgg39
  z28 := Try.sizeOf39
  v28 := Try.zeroValue39 }
open Go.RowKit Go.Lib Go.Sort in
/-- slices.Reverse at []int, over an array: Go's loop from the two ends inward is walked; it makes 'Sort.reverseLoop 0 (len - 1)', which is 'Array.reverse' (Derived/Lib/SlicesMore.lean). (LAID: no walk: one application.) -/
theorem Try.slices_Reverse_int_arr (blk off cap : Nat) (d : Array Int) (w : World) (hH : Holds encI w blk off d) (hsz : d.size ≤ 9223372036854775807) :
    Calls Try.prog 68 #[.slice (some ⟨blk, off, none⟩) d.size cap] w fun e w' => e = .returned (.tuple #[]) ∧ ∃ n, w' = putRow encI (Sort.ahead w n) blk off d.reverse := Any.slices_Reverse_int_arr Try.lays112 blk off cap d w hH hsz
open Go.RowKit Go.Lib Go.Sort in
/-- slices.Reverse at []int: "Reverse reverses the elements of the slice in place.": THE SLICE's CELLS HOLD 'zs.reverse' BEHIND THE CALL; all else is as it was, but for the count of draws (the exchange 's[i], s[j] = s[j], s[i]' draws its order, once a round). IN THE WORDS OF slices.Sort's CONTRACT: 'Holds': the cells hold zs and none is frozen; 'putRow': the world with those cells holding another array. A slice of length 0 that is not nil is among them ('zs = []'); nil: '.._nil'. (LAID: no walk: one application.) -/
theorem Try.slices_Reverse_int (blk off cap : Nat) (zs : List Int) (w : World) (hH : Holds (Value.int .i64) w blk off zs.toArray) (hsz : zs.length ≤ 9223372036854775807) :
    Calls Try.prog 68 #[.slice (some ⟨blk, off, none⟩) zs.length cap] w fun e w' => e = .returned (.tuple #[]) ∧ ∃ n, w' = putRow (Value.int .i64) (Sort.ahead w n) blk off zs.reverse.toArray := Any.slices_Reverse_int Try.lays112 blk off cap zs w hH hsz
open Go.RowKit Go.Lib Go.Sort in
/-- The same at a slice of length 0, a nil one too: nothing is read, nothing written, nothing drawn. (LAID: no walk: one application.) -/
theorem Try.slices_Reverse_int_empty (a : Option Addr) (cap : Nat) (w : World) :
    Calls Try.prog 68 #[.slice a 0 cap] w fun e w' => e = .returned (.tuple #[]) ∧ w' = w := Any.slices_Reverse_int_empty Try.lays112 a cap w
def Try.laysNm215_ren : Go.Shelf.Ren := ⟨fun | 15 => 67 | n => n, fun | 22 => 39 | 3 => 3 | 4 => 4 | n => n, fun | n => n⟩
theorem Try.laysNm215 : Go.Proofs.Lays2.n15 Try.prog Try.laysNm215_ren := {
  mixed := by kernel_rfl
  f15 := Try.func67.trans (congrArg some (by kernel_rfl))
  t3 := Try.underlying3
  a3 := Try.isAgg3
  z3 := Try.sizeOf3
  v3 := Try.zeroValue3
  t4 := Try.underlying4
  a4 := Try.isAgg4
  z4 := Try.sizeOf4
  v4 := Try.zeroValue4
  t22 := Try.underlying39
  a22 := Try.isAgg39
  z22 := Try.sizeOf39
  v22 := Try.zeroValue39
  i3 := by kernel_rfl }
open Go.RowKit Go.Lib in
/-- slices.Clone at []int: "Clone returns a copy of the slice. The elements are copied using assignment, so this is a shallow clone. The result may have additional unused capacity. The result preserves the nilness of s.": OF A SLICE THAT IS NOT nil IT RETURNS A SLICE THAT IS NOT nil, OF THE SAME ELEMENTS, IN MEMORY OF THE CALL's OWN: in the how-to's words (6f): 'w'.ownsRow B e 1 v' n cells': v' begins at the head of a row among the blocks from B on (B: the heap's size at the call), not frozen, whose first cells are the elements · 'Below B w w'': below B all is as it was. The capacity is whatever the run-time gives. 'zs': what the cells behind the slice's address hold; 'zs.take n': its elements. (LAID: no walk: one application.) -/
theorem Try.slices_Clone_int (b off n c : Nat) (zs : List Int) (w : World) (hz : n ≤ zs.length) (hbig : n * 8 ≤ 140737488355328) (hc : ∀ j, j < zs.length → w.cell? ⟨b, off + j, none⟩ = some (.int .i64 (zs.getD j 0))) :
    Calls Try.prog 67 #[.slice (some ⟨b, off, none⟩) n c] w fun e w' => ∃ v', e = .returned v' ∧ w'.ownsRow w.heap.size 3 1 v' n ((zs.take n).map (Value.int .i64)) ∧ v' ≠ .slice none 0 0 ∧ Below w.heap.size w w' := Any.slices_Clone_int Try.laysNm215 b off n c zs w hz hbig hc
open Go.RowKit Go.Lib in
/-- The same at nil: nil comes back; the world is as it was. (LAID: no walk: one application.) -/
theorem Try.slices_Clone_int_nil (n c : Nat) (w : World) :
    Calls Try.prog 67 #[.slice none n c] w fun e w' => e = .returned (.slice none 0 0) ∧ w' = w := Any.slices_Clone_int_nil Try.laysNm215 n c w
open Go.RowKit Go.Lib in
/-- The same at a slice of length 0 that is not nil, WHATEVER ITS ADDRESS (no cell is asked for): a slice that is not nil and owns nothing comes back. (LAID: no walk: one application.) -/
theorem Try.slices_Clone_int_zero (a : Addr) (c : Nat) (w : World) :
    Calls Try.prog 67 #[.slice (some a) 0 c] w fun e w' => ∃ v', e = .returned v' ∧ w'.ownsRow w.heap.size 3 1 v' 0 [] ∧ v' ≠ .slice none 0 0 ∧ Below w.heap.size w w' := Any.slices_Clone_int_zero Try.laysNm215 a c w
open Go.RowKit Go.Lib Go.Sort in
/-- slices.Reverse at []int, of an argument: the n cells hold the elements in reverse. (LAID: no walk: one application.) -/
theorem Try.slices_Reverse_int_cells (b off n c : Nat) (zs : List Int) (w : World) (hz : n ≤ zs.length) (hbig : n ≤ 9223372036854775807) (hc : ∀ j, j < zs.length → w.cell? ⟨b, off + j, none⟩ = some (.int .i64 (zs.getD j 0))) (hf : ∀ j, j < n → w.frozen? ⟨b, off + j, none⟩ = false) :
    Calls Try.prog 68 #[.slice (some ⟨b, off, none⟩) n c] w fun e w' => e = .returned (.tuple #[]) ∧ ∃ q, w' = (w.drewN q).setCells b off ((zs.take n).reverse.map (Value.int .i64)) := Any.slices_Reverse_int_cells Try.lays112 b off n c zs w hz hbig hc hf
def Try.laysSlE041_f67_ren : Go.Shelf.Ren := ⟨fun | 41 => 67 | n => n, fun | 22 => 39 | 23 => 3 | 4 => 4 | n => n, fun | n => n⟩
theorem Try.laysSlE041_f67 : Go.Proofs.SlLaysE0.n41 Try.prog Try.laysSlE041_f67_ren := {
  mixed := by kernel_rfl
  f41 := ⟨Try.f67.name, by decide, Try.func67.trans (congrArg some (by kernel_rfl))⟩
  t4 := Try.underlying4
  a4 := Try.isAgg4
  z4 := Try.sizeOf4
  v4 := Try.zeroValue4
  t22 := Try.underlying39
  a22 := Try.isAgg39
  z22 := Try.sizeOf39
  v22 := Try.zeroValue39 }
open Go.RowKit Go.Lib in
/-- slices.Clone: "Clone returns a copy of the slice. The elements are copied using assignment, so this is a shallow clone. The result may have additional unused capacity. The result preserves the nilness of s.": OF A SLICE THAT IS NOT nil IT RETURNS A SLICE THAT IS NOT nil, OF THE SAME CELLS, IN MEMORY OF THE CALL's OWN ('ownsRow': the how-to's 6f); below the heap's size at the call all is as it was. (LAID AT THE INSTANCE 'slices.Clone[[]int,int]': no walk: one application.) -/
theorem Try.slices_Clone (i0 : TypeInfo) (z : Value) (size bytes : Nat) (hi : Try.prog.info? 3 = some i0) (hz0 : i0.zero = some z) (hz1 : i0.size = size) (hz2 : i0.bytes = bytes) (hzs : z.cells.size = size) (hsz : 0 < size) (z23 : ∀ w, (Go.sizeOf 3).run Try.prog w = .ok size w) (b off n c : Nat) (news : List Value) (w : World) (hl : news.length = n * size) (hn : n ≤ maxLen) (hbig : n * bytes ≤ 140737488355328) (hc : ∀ j u, news[j]? = some u → w.cell? ⟨b, off + j, none⟩ = some u) (h1 : ∀ u ∈ news, u.oneCell' = true) :
    Calls Try.prog 67 #[.slice (some ⟨b, off, none⟩) n c] w fun e w' => ∃ v', e = .returned v' ∧ w'.ownsRow w.heap.size 3 size v' n news ∧ v' ≠ .slice none 0 0 ∧ Below w.heap.size w w' := AnyE.slices_Clone Try.laysSlE041_f67 i0 z size bytes hi hz0 hz1 hz2 hzs hsz z23 b off n c news w hl hn hbig hc h1
open Go.RowKit Go.Lib in
/-- The same at nil: nil comes back; the world is as it was; nothing is asked of the element's type. (LAID AT THE INSTANCE 'slices.Clone[[]int,int]': no walk: one application.) -/
theorem Try.slices_Clone_nil (n c : Nat) (w : World) :
    Calls Try.prog 67 #[.slice none n c] w fun e w' => e = .returned (.slice none 0 0) ∧ w' = w := AnyE.slices_Clone_nil Try.laysSlE041_f67 n c w
end Go.Proofs
end
section
/- B3: strings.Builder's String, at a builder of one's own. -/
open Go Go.RowKit Go.Proofs
set_option linter.unusedVariables false
set_option linter.unusedSimpArgs false
namespace Go.Proofs.Nw.K

theorem grown_of_below {w w' : World} (h : Below w.heap.size w w') (row : Option Nat) : w.grownBy w' row :=
  ⟨h.os, h.tape, h.output, h.size, fun k hk _ => h.block k hk⟩

theorem grown_freeze (w : World) (g n : Nat) : w.grownBy (w.drew.freeze ⟨g, 0, none⟩ n) (some g) := by
  unfold World.freeze
  split
  · exact ⟨rfl, rfl, rfl, Nat.le_refl _, fun k hk _ => rfl⟩
  · refine ⟨rfl, rfl, rfl, by simp, fun k hk hne => ?_⟩
    have hne : g ≠ k := fun e => hne (by rw [e])
    simp only [Array.getElem?_modify, if_neg hne]
    rfl

/-- an own thing is given up, whatever became of its block -/
theorem drop_own {w0 : World} {σ0 σ gh st w w'} (hb : Base w0 σ0 σ gh st w) {r : Nat} {o : AO} {g : Value} (hr : st[r]? = some o) (hg : gh[r]? = some g) (hn : o ≠ .gone) (hw : w.grownBy w' (blkOf g))
    (hkeep : ∀ v a, RepA σ gh st v a → RepA σ gh (st.set r .gone) v a) : Fut w0 σ0 σ gh st σ gh (st.set r .gone) w' := by
  have hset := set_self hg
  have := hb.turn hr hg hn hw g .gone (fun b hb' => .inl hb') trivial (by rw [hset]; exact hkeep)
  rwa [hset] at this

def byteRows (l : List UInt8) : List (List D) := l.map fun b => [.sc (.int .u8 b.toNat)]
theorem byteRows_append (a b : List UInt8) : byteRows (a ++ b) = byteRows a ++ byteRows b := by simp [byteRows]
theorem strRows_bytes (s : ByteArray) : strRows s = byteRows s.data.toList := rfl

theorem byteRows_length (l : List UInt8) : (byteRows l).length = l.length := by simp [byteRows]
theorem size_bytes (s : ByteArray) : s.size = s.data.toList.length := by simp only [Array.length_toList]; rfl

theorem write_first {st : List AO} {s : Nat} {a : AV} (hst : st[s]? = some (.box 77 [a, .nils])) (ha : a = .sc (.pointer none) ∨ a = .ptr s 0) (x : ByteArray) (hx : x.size ≤ 140737488351232) :
    Eff Try.prog 39 [.ptr s 0, .str x] st [.one (.sc (.int .i64 x.size)), .one (.sc .nilIface)] (st.set s (.box 77 [.ptr s 0, .h st.length 0 0 x.data.toList.length]) ++ [.row 0 5 1 (byteRows x.data.toList)]) := by
  have := write_new hst ha x hx
  rwa [strRows_bytes, size_bytes] at this

theorem write_more {st : List AO} {s r k : Nat} {l : List UInt8} (hst : st[s]? = some (.box 77 [.ptr s 0, .h r k 0 l.length])) (hr : st[r]? = some (.row k 5 1 (byteRows l))) (x : ByteArray) (hx : l.length + x.size ≤ 140737488351232) :
    Eff Try.prog 39 [.ptr s 0, .str x] st [.one (.sc (.int .i64 x.size)), .one (.sc .nilIface)] ((st.set r (.row (k + 1) 5 1 (byteRows (l ++ x.data.toList)))).set s (.box 77 [.ptr s 0, .h r (k + 1) 0 (l ++ x.data.toList).length])) := by
  have := write_used (s := s) (r := r) (k := k) (xs := byteRows l) (by rw [byteRows_length]; exact hst) hr x (by rw [byteRows_length]; exact hx)
  rwa [strRows_bytes, byteRows_length, ← byteRows_append, show l.length + x.size = (l ++ x.data.toList).length by rw [List.length_append, size_bytes]] at this

theorem string_new {st : List AO} {s : Nat} {a : AV} (hst : st[s]? = some (.box 77 [a, .nils])) : Eff Try.prog 41 [.ptr s 0] st [.one (.sc (.string ⟨#[]⟩))] st := by
  intro w0 σ0 σ gh w vs hb hl hvs
  obtain ⟨v, rfl⟩ := List.length_eq_one_iff.1 hl
  have h1 := hvs 0 v _ rfl rfl
  obtain ⟨b, vals, h2, rfl, h4, h5, h6, h7, _⟩ := ptr_cells hb h1 hst
  obtain ⟨vals⟩ := vals
  match vals, h6 with
  | [p, q], _ =>
    have hq := nils_val (h7 1 q .nils rfl rfl)
    subst hq
    refine (Any.Builder_String_nil Try.lays169 Try.Builder_Extra_169 w.heap.size b p w h5).mono fun e w' ⟨h8, h9⟩ => ?_
    exact ⟨_, h8, σ, gh, ⟨hb.grown (grown_of_below h9 none), fun _ _ h => h⟩, Rep.sc rfl⟩

theorem string_used {st : List AO} {s r k : Nat} {l : List UInt8} (hst : st[s]? = some (.box 77 [.ptr s 0, .h r k 0 l.length])) (hr : st[r]? = some (.row k 5 1 (byteRows l))) :
    Eff Try.prog 41 [.ptr s 0] st [.one (.sc (.string ⟨l.toArray⟩))] (st.set r .gone) := by
  intro w0 σ0 σ gh w vs hb hl hvs
  obtain ⟨v, rfl⟩ := List.length_eq_one_iff.1 hl
  have h1 := hvs 0 v _ rfl rfl
  obtain ⟨b, vals, h2, rfl, h4, h5, h6, h7, _⟩ := ptr_cells hb h1 hst
  obtain ⟨vals⟩ := vals
  have hlen : (byteRows l).length = l.length := by simp [byteRows]
  match vals, h6 with
  | [p, q], _ =>
    have hq := h7 1 q (.h r k 0 l.length) rfl rfl
    obtain ⟨g, hg, hR, A, c, hv⟩ := h_val hb hr hq
    have hqg : q = g := by
      obtain ⟨h0, ⟨a1, a2, a3⟩ | ⟨b', m, c2, a1, a2, ⟨a3, a4, _⟩ | a3⟩⟩ := hR
      · exact a3
      · omega
      · obtain ⟨A', c', hgv, hc'⟩ := row_val hb hr hg
        rw [a1] at hgv
        injection hgv with e1 e2 e3
        rw [a3, a1, e2, hlen]; simp
    subst hqg
    have hkeep : ∀ v a, RepA σ gh st v a → RepA σ gh (st.set r .gone) v a := fun v a h => h.set hr _ (fun _ _ _ _ h => by cases h)
    obtain ⟨rv, hown, hsz, hval, huns, hone⟩ := hb.obj r _ _ hr hg
    rcases hown.2 with ⟨rfl, h0⟩ | ⟨g, cap, cur, rfl, hbb, hheap, hnc, hcm, hcs, htake⟩
    · have : l = [] := List.eq_nil_of_length_eq_zero (by omega)
      subst this
      refine (Any.Builder_String_nil Try.lays169 Try.Builder_Extra_169 w.heap.size b p w h5).mono fun e w' ⟨h8, h9⟩ => ?_
      exact ⟨_, h8, σ, gh, drop_own hb hr hg (by simp) (grown_of_below h9 _) hkeep, Rep.sc rfl⟩
    · rw [hlen] at h5 hnc
      by_cases h0 : l = []
      · subst h0
        by_cases hc : cap = 0
        · subst hc
          refine (Any.Builder_String_noroom Try.lays169 Try.Builder_Extra_169 w.heap.size b g p cur w (Nat.le_refl _) h5 hheap).mono fun e w' ⟨h8, h9⟩ => ?_
          exact ⟨_, h8, σ, gh, drop_own hb hr hg (by simp) (grown_of_below h9 _) hkeep, Rep.sc rfl⟩
        · refine (Any.Builder_String_room Try.lays169 Try.Builder_Extra_169 w.heap.size b g cap p w hc h5).mono fun e w' ⟨h8, h9⟩ => ?_
          exact ⟨_, h8, σ, gh, drop_own hb hr hg (by simp) (grown_of_below h9 _) hkeep, Rep.sc rfl⟩
      · refine (String_at Try.lays169 Try.Builder_Extra_169 b g cap cur p l w h5 hheap hnc hcm (by simpa using hcs) (fun j x hx => ?_) h0).mono fun e w' ⟨h8, h9⟩ => ?_
        · obtain ⟨v, h10, h11⟩ := hval j 0 [.sc (.int .u8 x.toNat)] _ (by simp [byteRows, hx]) rfl
          have := hown.cells (g := g) rfl j v (by simpa using h10)
          rw [add_lit, Nat.zero_add] at this
          rw [this]
          have : v = .int .u8 x.toNat := RepA_sc (gh := gh) (st := st) h11
          rw [this]
        · subst h9
          exact ⟨_, h8, σ, gh, drop_own hb hr hg (by simp) (grown_freeze w g _) hkeep, Rep.sc rfl⟩

end Go.Proofs.Nw.K
end
section
open Go Go.RowKit Go.Proofs
set_option linter.unusedVariables false
set_option linter.unusedSimpArgs false
namespace Go.Proofs.Nw.K

theorem not_true_eq {b : Bool} (h : (!b) = true) : b = false := by cases b <;> simp_all
theorem not_false_eq {b : Bool} (h : (!b) = false) : b = true := by cases b <;> simp_all

theorem Or_impl (l : List Str) (hl : l.length ≤ maxLen) : Impl Try.prog 48 [.one (dStrs l)] [.one (dstr (orOf l))] := by
  simp only [maxLen] at hl
  refine impl_vc tabOk Try.func48 rfl rfl (by exact Nat.le_of_ble_eq_true rfl) (vc_sound tabOk (by kernel_rfl) ?_)
  refine WP_loop (α := {i : Nat // i ≤ l.length ∧ orOf (l.drop i) = orOf l}) (fun i => ofL [(2, .str emp), (3, .str emp), (6, .d (dStrs l)), (7, .int l.length), (8, .int (i.1 : Int))]) (fun _ => []) (fun i => l.length - i.1) ⟨0, by simp⟩ ?_ ?_
  · exact Sub.ofL _ _ (Nat.le_refl _) ⟨rfl, rfl, rfl, rfl, rfl, rfl, rfl, rfl, rfl, rfl, trivial⟩ rfl rfl
  rintro ⟨i, hi, hor⟩
  refine vc_sound tabOk (by kernel_rfl) ?_
  refine And.intro rfl (And.intro (fun h => ?_) (fun h => ?_))
  · have hlt : i < l.length := by simpa using h
    have hd : l.drop i = l[i] :: l.drop (i + 1) := List.drop_eq_getElem_cons hlt
    have hg : l.getD i emp = l[i] := by simp [List.getD, hlt]
    refine And.intro rfl (And.intro (Int.natCast_nonneg _) (And.intro (by simpa using hlt) (And.intro (fun h => ?_) (fun h => ?_))))
    · refine And.intro (DLe.of_eq ?_) trivial
      simp only [Int.toNat_natCast, hg] at h ⊢
      rw [← hor, hd]
      simp only [orOf]
      simp at h
      simp [h]
    · refine And.intro rfl (And.intro ⟨by omega, by show ((i : Int) + 1) ≤ _; omega⟩ ?_)
      refine ⟨⟨i + 1, hlt, ?_⟩, by simp; omega, Sub.ofL _ _ (Nat.le_refl _) ⟨rfl, rfl, rfl, rfl, rfl, rfl, rfl, rfl, rfl, rfl, trivial⟩ rfl rfl⟩
      · simp only [Int.toNat_natCast, hg] at h
        rw [← hor, hd]
        simp only [orOf]
        simp at h
        simp [h]
  · have hge : ¬ i < l.length := by simpa using h
    refine And.intro (DLe.of_eq ?_) trivial
    have : l.drop i = [] := List.drop_eq_nil_of_le (by omega)
    rw [this] at hor
    rw [← hor]; rfl

theorem Join_impl (l : List Str) (sep : Str) (h0 : l ≠ []) (hN : l.length ≤ 140737488355328) (hlen : (joinOf l sep).size ≤ 140737488355328) : Impl Try.prog 65 [.one (dStrs l), .one (dstr sep)] [.one (dstr (joinOf l sep))] := by
  intro w σ vs hs hv
  obtain ⟨hl, hr⟩ := hv
  match vs, hl with
  | [v, u], _ =>
    have h1 : Rep σ v (dStrs l) := hr 0 v _ rfl rfl
    have h2 : u = .string sep := RepA_sc (gh := []) (st := []) (hr 1 u _ rfl rfl)
    subst h2
    cases h1 with
    | tl h1 =>
      generalize hm : l.map encStr = m at h1
      cases h1 with
      | nil _ => exact absurd (by simpa using hm) h0
      | @list b off n c _ _ val hn _ hc hmx hsz hcell hval =>
        subst hm
        have hn : n = l.length := by simpa using hn
        subst hn
        have hcells : ∀ (j : Nat) x, l[j]? = some x → w.cell? ⟨b, off + j, none⟩ = some (.string x) := fun j x hx => by
          have hj : j < l.length := (List.getElem?_eq_some_iff.1 hx).1
          have a1 := (hs.cell _ _ _ (hcell j 0 hj (by decide))).1
          have a2 := hval j 0 (encStr x) (dstr x) (by simp [hx]) rfl
          have a3 : val j 0 = .string x := RepA_sc (gh := []) (st := []) a2
          rw [a3] at a1
          simpa using a1
        have hb : b < w.heap.size := by
          cases l with
          | nil => exact absurd rfl h0
          | cons x r => exact World.block_lt_of_cell? w _ (hcells 0 x rfl)
        refine (Try.strings_Join b off c l sep w hcells hb hN hc (by rw [str_size] at hlen; simpa [joinOf] using hlen)).mono fun e w' ⟨h8, h9⟩ => ?_
        refine ⟨_, σ, h8, h9, hs.grown (grown_of_below h9 none) (fun _ h => by cases h), fun _ _ => ⟨rfl, rfl⟩, Rep.sc rfl⟩

theorem lineOf_join (d : Dep) : lineOf d = (if d.classifier.toList == emp.toList then joinOf [d.group, d.name, tyOf d, d.version, d.scope] colon else joinOf [d.group, d.name, tyOf d, d.classifier, d.version, d.scope] colon) := by
  unfold lineOf
  split <;> simp only [join_cons, join_one, app_assoc]

theorem tyOf_or (d : Dep) : orOf [d.type, jar] = tyOf d := by
  simp only [orOf, tyOf]
  split
  · rw [if_neg (by rw [str_beq]; decide)]
  · rfl

theorem Line_impl (d : Dep) (h : d.wt ≤ 4194304) : Impl Try.prog 40 [.agg (encDep d)] [.one (dstr (lineOf d))] := by
  have hsz := lineOf_size d
  refine impl_vc tabOk Try.func40 rfl rfl (by exact Nat.le_of_ble_eq_true rfl) (vc_sound tabOk (by kernel_rfl) ?_)
  refine ⟨rfl, rfl, rfl, rfl, rfl, rfl, ?_⟩
  refine And.intro rfl (And.intro (by decide) (And.intro (by decide) (And.intro rfl (Or.inl (And.intro rfl ?_)))))
  refine And.intro rfl (Exists.intro _ (Exists.intro _ (And.intro (Or_impl [d.type, jar] (Nat.le_of_ble_eq_true rfl)) (And.intro (And.intro (DLe.tl emp rfl) trivial) (And.intro rfl ?_)))))
  refine And.intro rfl (And.intro (by decide) (And.intro (by decide) (And.intro rfl (Or.inr (And.intro rfl ?_)))))
  refine And.intro rfl ?_
  refine And.intro (fun h => ?_) (fun h => ?_)
  · refine And.intro rfl (And.intro (by decide) (And.intro (by decide) (And.intro rfl (Or.inl ?_))))
    refine And.intro rfl (And.intro rfl (And.intro (List.cons_ne_nil _ _) (And.intro rfl (And.intro (List.cons_ne_nil _ _) (And.intro (Nat.le_of_ble_eq_true rfl) (And.intro (Nat.le_of_ble_eq_true rfl) ?_))))))
    refine And.intro rfl (And.intro (by decide) (And.intro (by decide) (And.intro rfl (Or.inl ?_))))
    refine And.intro rfl (And.intro ⟨rfl, rfl, rfl, rfl⟩ (And.intro rfl (And.intro (Nat.le_of_ble_eq_true rfl) (And.intro (Nat.le_of_ble_eq_true rfl) ?_))))
    refine And.intro rfl (Or.inr (Or.inl (And.intro ⟨rfl, rfl, rfl⟩ ?_)))
    have hc : (d.classifier.toList == emp.toList) = false := not_true_eq h
    refine Exists.intro _ (Exists.intro _ (And.intro (Join_impl [d.group, d.name, tyOf d, d.classifier, d.version, d.scope] colon (List.cons_ne_nil _ _) (Nat.le_of_ble_eq_true rfl) ?_) (And.intro (And.intro (DLe.tl emp ?_) (And.intro (DLe.refl _) trivial)) ?_)))
    · have := lineOf_join d
      rw [if_neg (by rw [hc]; decide)] at this
      rw [← this]; omega
    · rw [← tyOf_or]; rfl
    · refine And.intro (DLe.of_eq ?_) trivial
      have := lineOf_join d
      rw [if_neg (by rw [hc]; decide)] at this
      rw [this]
  · refine And.intro rfl (And.intro (by decide) (And.intro (by decide) (And.intro rfl (Or.inl ?_))))
    refine And.intro rfl (And.intro rfl (And.intro (List.cons_ne_nil _ _) (And.intro rfl (And.intro (List.cons_ne_nil _ _) (And.intro (Nat.le_of_ble_eq_true rfl) (And.intro (Nat.le_of_ble_eq_true rfl) ?_))))))
    refine And.intro rfl (Or.inr (Or.inl (And.intro ⟨rfl, rfl, rfl⟩ ?_)))
    have hc : (d.classifier.toList == emp.toList) = true := not_false_eq h
    refine Exists.intro _ (Exists.intro _ (And.intro (Join_impl [d.group, d.name, tyOf d, d.version, d.scope] colon (List.cons_ne_nil _ _) (Nat.le_of_ble_eq_true rfl) ?_) (And.intro (And.intro (DLe.tl emp ?_) (And.intro (DLe.refl _) trivial)) ?_)))
    · have := lineOf_join d
      rw [if_pos hc] at this
      rw [← this]; omega
    · rw [← tyOf_or]; rfl
    · refine And.intro (DLe.of_eq ?_) trivial
      have := lineOf_join d
      rw [if_pos hc] at this
      rw [this]

theorem linesOf_snoc (l : List Dep) (i : Nat) (h : i < l.length) : linesOf (l.take (i + 1)) = linesOf (l.take i) ++ (lineOf l[i] ++ nl) := by
  rw [List.take_succ_eq_append_getElem h, linesOf_append]
  congr 1
  simp only [linesOf, app_emp]

def linesSt (l : List Dep) : Nat → List AO
  | 0 => [.box 77 [.sc (.pointer none), .nils]]
  | i + 1 => [.box 77 [.ptr 0 0, .h 2 i 0 (linesOf (l.take (i + 1))).data.toList.length], .box 35 ((encDep (l.getD 0 zDep)).map AV.d), .row i 5 1 (byteRows (linesOf (l.take (i + 1))).data.toList)]

theorem le_sum_of_mem : ∀ {l : List Nat} {a : Nat}, a ∈ l → a ≤ l.sum
  | b :: r, a, h => by
    rcases List.mem_cons.1 h with rfl | h
    · simp
    · have := le_sum_of_mem h; simp; omega

theorem sum_take {α : Type} (f : α → Nat) (l : List α) (i : Nat) : ((l.take i).map f).sum ≤ (l.map f).sum := by
  conv => rhs; rw [← List.take_append_drop i l]
  rw [List.map_append, List.sum_append]; omega

theorem Lines_impl (l : List Dep) (h : (l.map Dep.wt).sum ≤ 4194304) : Impl Try.prog 17 [.one (dDeps l)] [.one (dstr (linesOf l))] := by
  have hlen := len_le_wt l
  have hwt : ∀ i (hi : i < l.length), l[i].wt ≤ 4194304 := fun i hi => by
    have := le_sum_of_mem (l := l.map Dep.wt) (a := l[i].wt) (List.mem_map_of_mem (List.getElem_mem hi))
    omega
  have hpre : ∀ i, (linesOf (l.take i)).size ≤ 2 * 4194304 := fun i => by
    have h1 := linesOf_size (l.take i)
    have h2 := sum_take Dep.wt l i
    have h3 : (l.take i).length ≤ l.length := by rw [List.length_take]; omega
    omega
  refine impl_vc tabOk Try.func17 rfl rfl (by exact Nat.le_of_ble_eq_true rfl) (vc_sound tabOk (by kernel_rfl) ?_)
  refine WP_loop (α := {i : Nat // i ≤ l.length}) (fun i => ofL [(2, .str emp), (3, .ptr 0 0), (6, .d (dDeps l)), (7, .int l.length), (8, .int (i.1 : Int))]) (fun i => linesSt l i.1) (fun i => l.length - i.1) ⟨0, by simp⟩ ?_ ?_
  · exact Sub.ofL _ _ (Nat.zero_le _) ⟨rfl, rfl, rfl, rfl, rfl, rfl, rfl, rfl, rfl, rfl, trivial⟩ rfl rfl
  rintro ⟨i, hi⟩
  cases i with
  | zero =>
    refine vc_sound tabOk (by kernel_rfl) ?_
    refine And.intro rfl (And.intro (fun h => ?_) (fun h => ?_))
    · have hlt : 0 < l.length := by simpa using h
      have hg : l.getD 0 zDep = l[0] := by simp [List.getD, hlt]
      refine And.intro rfl (And.intro (Int.natCast_nonneg _) (And.intro (by simpa using hlt) ?_))
      refine And.intro (Nat.le_of_ble_eq_true rfl) ?_
      refine And.intro rfl (And.intro (Nat.le_of_ble_eq_true rfl) ?_)
      refine And.intro rfl ?_
      refine And.intro rfl (Exists.intro _ (Exists.intro _ (And.intro (Line_impl (l.getD 0 zDep) ?_) (And.intro (AsLe.refl _) ?_))))
      · rw [hg]; exact hwt 0 hlt
      have hls := lineOf_size (l.getD 0 zDep)
      have hw0 := hwt 0 hlt
      rw [← hg] at hw0
      refine And.intro (by show (lineOf (l.getD 0 zDep)).size + 1 ≤ _; omega) ?_
      refine And.intro rfl (Or.inl (Exists.intro _ (Exists.intro _ (And.intro (write_first (s := 0) rfl (.inl rfl) _ ?_) ?_))))
      · rw [app_size]; show _ + 1 ≤ _; omega
      refine And.intro rfl (And.intro ⟨by omega, by show (0 : Int) + 1 ≤ _; decide⟩ ?_)
      refine ⟨⟨1, hlt⟩, by simp; omega, Sub.ofL _ _ (Nat.zero_le _) ⟨rfl, rfl, rfl, rfl, rfl, rfl, rfl, rfl, rfl, rfl, trivial⟩ ?_ rfl⟩
      have e1 : linesOf (l.take 1) = lineOf (l.getD 0 zDep) ++ nl := by
        rw [linesOf_snoc l 0 hlt, hg]
        exact emp_app _
      show _ = linesSt l 1
      simp only [linesSt, e1]
      rfl
    · have h0 : l = [] := List.eq_nil_of_length_eq_zero (by
        have : ¬ 0 < l.length := by simpa using h
        omega)
      subst h0
      refine And.intro rfl (Or.inl (Exists.intro _ (Exists.intro _ (And.intro (string_new (s := 0) rfl) ?_))))
      exact And.intro (DLe.refl _) trivial
  | succ i =>
    refine vc_sound tabOk (by kernel_rfl) ?_
    refine And.intro rfl (And.intro (fun h => ?_) (fun h => ?_))
    · have hlt : i + 1 < l.length := by
        have h : decide (((i + 1 : Nat) : Int) < (l.length : Int)) = true := h
        have := of_decide_eq_true h
        omega
      have hg : l.getD (i + 1) zDep = l[i + 1] := by simp [List.getD, hlt]
      refine And.intro rfl (And.intro (Int.natCast_nonneg _) (And.intro (by show ((i + 1 : Nat) : Int) < (l.length : Int); omega) ?_))
      refine And.intro (Nat.le_of_ble_eq_true rfl) ?_
      refine And.intro rfl (And.intro (Nat.le_of_ble_eq_true rfl) ?_)
      refine And.intro rfl ?_
      refine And.intro rfl (Exists.intro _ (Exists.intro _ (And.intro (Line_impl (l.getD (i + 1) zDep) ?_) (And.intro (AsLe.refl _) ?_))))
      · rw [hg]; exact hwt _ hlt
      have hls := lineOf_size (l.getD (i + 1) zDep)
      have hw0 := hwt _ hlt
      rw [← hg] at hw0
      refine And.intro (by show (lineOf (l.getD (i + 1) zDep)).size + 1 ≤ _; omega) ?_
      have hp := hpre (i + 1)
      refine And.intro rfl (Or.inl (Exists.intro _ (Exists.intro _ (And.intro (write_more (s := 0) (r := 2) (k := i) (l := (linesOf (l.take (i + 1))).data.toList) rfl rfl _ ?_) ?_))))
      · rw [app_size, ← str_size]; show _ + (_ + 1) ≤ _; omega
      refine And.intro rfl (And.intro ⟨by omega, by show ((i + 1 : Nat) : Int) + 1 ≤ _; omega⟩ ?_)
      refine ⟨⟨i + 2, hlt⟩, by simp; omega, Sub.ofL _ _ (Nat.zero_le _) ⟨rfl, rfl, rfl, rfl, rfl, rfl, rfl, rfl, rfl, rfl, trivial⟩ ?_ rfl⟩
      have e1 : linesOf (l.take (i + 2)) = linesOf (l.take (i + 1)) ++ (lineOf (l.getD (i + 1) zDep) ++ nl) := by
        rw [linesOf_snoc l (i + 1) hlt, hg]
      show _ = linesSt l (i + 2)
      simp only [linesSt, e1, str_app]
      rfl
    · have h0 : l.take (i + 1) = l := by
        have h : decide (((i + 1 : Nat) : Int) < (l.length : Int)) = false := h
        have := of_decide_eq_false h
        exact List.take_of_length_le (by omega)
      refine And.intro rfl (Or.inl (Exists.intro _ (Exists.intro _ (And.intro (string_used (s := 0) (r := 2) (l := (linesOf (l.take (i + 1))).data.toList) rfl rfl) ?_))))
      refine And.intro (DLe.of_eq ?_) trivial
      rw [h0]
end Go.Proofs.Nw.K
end
section
open Go Go.RowKit Go.Proofs
set_option linter.unusedVariables false
set_option linter.unusedSimpArgs false
namespace Go.Proofs.Nw.K

theorem Clone_impl (l : List Excluded) (h : l.length ≤ 4194304) : Impl Try.prog 37 [.one (dExcludeds l)] [.one (dExcludeds l)] := by
  refine impl_vc tabOk Try.func37 rfl rfl (by exact Nat.le_of_ble_eq_true rfl) (vc_sound tabOk (by kernel_rfl) ?_)
  refine And.intro (fun e => ?_) ?_
  · refine And.intro (fun _ => And.intro ?_ trivial) (fun h => by cases h)
    subst e
    exact DLe.nils _
  refine And.intro (fun h => by cases h) (fun _ => ?_)
  refine And.intro rfl (And.intro ⟨rfl, rfl, rfl, rfl⟩ (And.intro rfl (And.intro ?_ (And.intro ?_ ?_))))
  · simp only [List.length_map]; omega
  · simp only [List.length_map, maxLen]; omega
  refine And.intro ⟨rfl, rfl, by simp⟩ (And.intro (DLe.tl _ ?_) trivial)
  simp

theorem Type_impl (d : Dep) : Impl Try.prog 59 [.agg (encDep d)] [.one (dstr (tyOf d))] := by
  refine impl_vc tabOk Try.func59 rfl rfl (by exact Nat.le_of_ble_eq_true rfl) (vc_sound tabOk (by kernel_rfl) ?_)
  refine And.intro (fun h => ?_) (fun h => ?_)
  · refine And.intro (DLe.of_eq ?_) trivial
    have h : (d.type.toList == emp.toList) = true := h
    simp only [tyOf, if_pos h]; rfl
  · refine And.intro (DLe.of_eq ?_) trivial
    have h : (d.type.toList == emp.toList) = false := h
    have h' : ¬ (d.type.toList == emp.toList) = true := by rw [h]; decide
    simp only [tyOf, if_neg h']

theorem line_impl (d : Dep) (h : d.wt ≤ 4194304) : Impl Try.prog 42 [.agg (encDep d)] [.one (dstr (lineOf d))] := by
  have hsz := lineOf_size d
  have ht := tyOf_size d
  have hw : d.group.size + d.name.size + d.version.size + d.type.size + d.classifier.size + d.scope.size + 9 ≤ 4194304 := by unfold Dep.wt at h; omega
  have h1 : colon.size = 1 := rfl
  refine impl_vc tabOk Try.func42 rfl rfl (by exact Nat.le_of_ble_eq_true rfl) (vc_sound tabOk (by kernel_rfl) ?_)
  repeat refine And.intro rfl ?_
  refine And.intro (by show d.group.size + colon.size ≤ _; omega) ?_
  repeat refine And.intro rfl ?_
  refine And.intro (by show (d.group ++ colon).size + d.name.size ≤ _; rw [app_size]; omega) (And.intro rfl ?_)
  refine And.intro (by show (d.group ++ colon ++ d.name).size + colon.size ≤ _; simp only [app_size]; omega) ?_
  repeat refine And.intro rfl ?_
  refine Exists.intro _ (Exists.intro _ (And.intro (Type_impl d) (And.intro (AsLe.refl _) (And.intro rfl ?_))))
  refine And.intro (by show (d.group ++ colon ++ d.name ++ colon).size + (tyOf d).size ≤ _; simp only [app_size]; omega) ?_
  repeat refine And.intro rfl ?_
  refine And.intro (fun h => ?_) (fun h => ?_)
  · have hc : (d.classifier.toList == emp.toList) = false := not_true_eq h
    refine And.intro (by show (d.group ++ colon ++ d.name ++ colon ++ tyOf d).size + colon.size ≤ _; simp only [app_size]; omega) ?_
    refine And.intro (by show (d.group ++ colon ++ d.name ++ colon ++ tyOf d ++ colon).size + d.classifier.size ≤ _; simp only [app_size]; omega) ?_
    refine And.intro (by show (d.group ++ colon ++ d.name ++ colon ++ tyOf d ++ colon ++ d.classifier).size + colon.size ≤ _; simp only [app_size]; omega) ?_
    refine And.intro (by show (d.group ++ colon ++ d.name ++ colon ++ tyOf d ++ colon ++ d.classifier ++ colon).size + d.version.size ≤ _; simp only [app_size]; omega) ?_
    refine And.intro (by show (d.group ++ colon ++ d.name ++ colon ++ tyOf d ++ colon ++ d.classifier ++ colon ++ d.version).size + colon.size ≤ _; simp only [app_size]; omega) ?_
    refine And.intro (by show (d.group ++ colon ++ d.name ++ colon ++ tyOf d ++ colon ++ d.classifier ++ colon ++ d.version ++ colon).size + d.scope.size ≤ _; simp only [app_size]; omega) ?_
    refine And.intro (DLe.of_eq ?_) trivial
    simp only [lineOf, if_neg (show ¬ (d.classifier.toList == emp.toList) = true by rw [hc]; decide)]
    rfl
  · have hc : (d.classifier.toList == emp.toList) = true := not_false_eq h
    refine And.intro (by show (d.group ++ colon ++ d.name ++ colon ++ tyOf d).size + colon.size ≤ _; simp only [app_size]; omega) ?_
    refine And.intro (by show (d.group ++ colon ++ d.name ++ colon ++ tyOf d ++ colon).size + d.version.size ≤ _; simp only [app_size]; omega) ?_
    refine And.intro (by show (d.group ++ colon ++ d.name ++ colon ++ tyOf d ++ colon ++ d.version).size + colon.size ≤ _; simp only [app_size]; omega) ?_
    refine And.intro (by show (d.group ++ colon ++ d.name ++ colon ++ tyOf d ++ colon ++ d.version ++ colon).size + d.scope.size ≤ _; simp only [app_size]; omega) ?_
    refine And.intro (DLe.of_eq ?_) trivial
    simp only [lineOf, if_pos hc]
    rfl

theorem refLines_impl (l : List Dep) (h : (l.map Dep.wt).sum ≤ 4194304) : Impl Try.prog 18 [.one (dDeps l)] [.one (dstr (linesOf l))] := by
  have hlen := len_le_wt l
  have hwt : ∀ i (hi : i < l.length), l[i].wt ≤ 4194304 := fun i hi => by
    have := le_sum_of_mem (l := l.map Dep.wt) (a := l[i].wt) (List.mem_map_of_mem (List.getElem_mem hi))
    omega
  have hpre : ∀ i, (linesOf (l.take i)).size ≤ 2 * 4194304 := fun i => by
    have h1 := linesOf_size (l.take i)
    have h2 := sum_take Dep.wt l i
    have h3 : (l.take i).length ≤ l.length := by rw [List.length_take]; omega
    omega
  refine impl_vc tabOk Try.func18 rfl rfl (by exact Nat.le_of_ble_eq_true rfl) (vc_sound tabOk (by kernel_rfl) ?_)
  refine WP_loop (α := {i : Nat // i ≤ l.length}) (fun i => ofL [(0, .d (dDeps l)), (2, .str emp), (3, .str (linesOf (l.take i.1))), (4, .int (i.1 : Int))]) (fun i => []) (fun i => l.length - i.1) ⟨0, by simp⟩ ?_ ?_
  · exact Sub.ofL _ _ (Nat.zero_le _) ⟨rfl, rfl, rfl, rfl, rfl, rfl, rfl, rfl, trivial⟩ rfl rfl
  rintro ⟨i, hi⟩
  refine vc_sound tabOk (by kernel_rfl) ?_
  refine And.intro rfl (And.intro (fun h => ?_) (fun h => ?_))
  · have hlt : i < l.length := by simpa using h
    have hg : l.getD i zDep = l[i] := by simp [List.getD, hlt]
    have hls := lineOf_size (l.getD i zDep)
    have hw0 := hwt i hlt
    rw [← hg] at hw0
    have hp := hpre i
    have h1 : nl.size = 1 := rfl
    refine And.intro rfl (And.intro (Int.natCast_nonneg _) (And.intro (by simpa using hlt) ?_))
    refine And.intro (Nat.le_of_ble_eq_true rfl) ?_
    refine And.intro rfl (Exists.intro _ (Exists.intro _ (And.intro (line_impl (l.getD i zDep) hw0) (And.intro (AsLe.refl _) ?_))))
    refine And.intro (by show (linesOf (l.take i)).size + (lineOf (l.getD i zDep)).size ≤ _; omega) ?_
    refine And.intro (by show (linesOf (l.take i) ++ lineOf (l.getD i zDep)).size + nl.size ≤ _; rw [app_size]; omega) ?_
    refine And.intro rfl (And.intro ⟨by omega, by show (i : Int) + 1 ≤ _; omega⟩ ?_)
    refine ⟨⟨i + 1, hlt⟩, by simp; omega, Sub.ofL _ _ (Nat.zero_le _) ⟨rfl, rfl, rfl, rfl, ?_, rfl, rfl, rfl, trivial⟩ rfl rfl⟩
    show AV.str (linesOf (l.take i) ++ lineOf (l.getD i zDep) ++ nl) = AV.str (linesOf (l.take (i + 1)))
    rw [linesOf_snoc l i hlt, hg, app_assoc]
  · have h0 : l.take i = l := List.take_of_length_le (by have : ¬ i < l.length := by simpa using h
                                                         omega)
    refine And.intro (DLe.of_eq ?_) trivial
    show DV.one (dstr (linesOf (l.take i))) = _
    rw [h0]
end Go.Proofs.Nw.K
end
section
open Go Go.RowKit Go.Proofs
set_option linter.unusedVariables false
set_option linter.unusedSimpArgs false
namespace Go.Proofs.Nw.K

def amongOf (s : Str) (l : List Str) : Bool := l.any fun x => x.toList == s.toList

theorem among_impl (s : Str) (l : List Str) (h : l.length ≤ 4194304) : Impl Try.prog 60 [.one (dstr s), .one (dStrs l)] [.one (dbool (amongOf s l))] := by
  refine impl_vc tabOk Try.func60 rfl rfl (by exact Nat.le_of_ble_eq_true rfl) (vc_sound tabOk (by kernel_rfl) ?_)
  refine WP_scope_cut (α := {x : List Str // x.length ≤ l.length ∧ amongOf s x = amongOf s l}) 0 (fun x => ofL [(0, .str s), (1, .d (dStrs x.1)), (4, .bool false)]) (fun _ => []) (fun x => x.1.length) (by rfl) ?_ (fun cut => ?_)
  · rintro ⟨x, hx, ha⟩
    refine vc_sound tabOk (by kernel_rfl) ?_
    refine And.intro rfl (And.intro (fun h => ?_) (fun h => ?_))
    · refine And.intro (DLe.of_eq ?_) trivial
      have : x = [] := List.eq_nil_of_length_eq_zero (by simpa using h)
      subst this
      rw [← ha]; rfl
    · have hne : 0 < x.length := by
        have : ¬ x.length = 0 := by simpa using h
        omega
      obtain ⟨y, r, rfl⟩ : ∃ y r, x = y :: r := by cases x with | nil => simp at hne | cons y r => exact ⟨y, r, rfl⟩
      refine And.intro rfl (And.intro (Int.le_refl _) (And.intro (by simp) (And.intro (fun h => ?_) (fun h => ?_))))
      · refine And.intro (DLe.of_eq ?_) trivial
        have h : (y.toList == s.toList) = true := h
        rw [← ha]; simp [amongOf, h, cD]
      · have h : (y.toList == s.toList) = false := h
        refine And.intro rfl (And.intro (by decide) (And.intro (by simp) (And.intro (by simp) ?_)))
        refine And.intro rfl ⟨⟨r, by simp at hx ⊢; omega, by rw [← ha]; simp [amongOf, h]⟩, by simp, Sub.ofL _ _ (Nat.zero_le _) ⟨rfl, rfl, ?_, rfl, rfl, rfl, trivial⟩ rfl rfl⟩
        show AV.d (.tl Str 1 encStr emp (((y :: r).take (y :: r).length).drop 1)) = _
        rw [List.take_length]; rfl
  · exact cut ⟨l, Nat.le_refl _, rfl⟩ _ _ (Sub.ofL _ _ (Nat.zero_le _) ⟨rfl, rfl, rfl, rfl, rfl, rfl, trivial⟩ rfl rfl)

def sCompile : Str := ⟨#[99, 111, 109, 112, 105, 108, 101]⟩
def sRuntime : Str := ⟨#[114, 117, 110, 116, 105, 109, 101]⟩
def sProvided : Str := ⟨#[112, 114, 111, 118, 105, 100, 101, 100]⟩
def sTest : Str := ⟨#[116, 101, 115, 116]⟩

theorem Is_impl (s : Str) : Impl Try.prog 61 [.one (dstr s)] [.one (dbool (amongOf s [sCompile, sRuntime, sProvided, sTest]))] := by
  refine impl_vc tabOk Try.func61 rfl rfl (by exact Nat.le_of_ble_eq_true rfl) (vc_sound tabOk (by kernel_rfl) ?_)
  refine And.intro rfl (And.intro (by decide) (And.intro (by decide) (And.intro rfl (Or.inl ?_))))
  refine And.intro rfl (Exists.intro _ (Exists.intro _ (And.intro (among_impl s [sCompile, sRuntime, sProvided, sTest] (Nat.le_of_ble_eq_true rfl)) (And.intro (And.intro (DLe.refl _) (And.intro (DLe.tl _ rfl) trivial)) ?_))))
  exact And.intro (DLe.refl _) trivial

/-- what counts for a command -/
def inScope (kind : Int) (s : Str) : Bool :=
  if kind == 2 then amongOf s [sCompile, sProvided] else if kind == 3 then amongOf s [sCompile, sRuntime] else if kind == 4 then amongOf s [sCompile, sRuntime, sProvided, sTest] else if kind == 5 then s.toList == sProvided.toList else false

theorem In_impl (kind : Int) (s : Str) : Impl Try.prog 36 [.one (dint kind), .one (dstr s)] [.one (dbool (inScope kind s))] := by
  refine impl_vc tabOk Try.func36 rfl rfl (by exact Nat.le_of_ble_eq_true rfl) (vc_sound tabOk (by kernel_rfl) ?_)
  refine And.intro rfl (And.intro (fun h => ?_) (fun h2 => ?_))
  · refine And.intro rfl (And.intro (by decide) (And.intro (by decide) (And.intro rfl (Or.inl ?_))))
    refine And.intro rfl (Exists.intro _ (Exists.intro _ (And.intro (among_impl s [sCompile, sProvided] (Nat.le_of_ble_eq_true rfl)) (And.intro (And.intro (DLe.refl _) (And.intro (DLe.tl _ rfl) trivial)) ?_))))
    refine And.intro (DLe.of_eq ?_) trivial
    have h : (kind == 2) = true := h
    simp only [inScope, if_pos h]
  have h2 : ¬ (kind == 2) = true := by have h2 : (kind == 2) = false := h2; rw [h2]; decide
  refine And.intro rfl (And.intro (fun h => ?_) (fun h3 => ?_))
  · refine And.intro rfl (And.intro (by decide) (And.intro (by decide) (And.intro rfl (Or.inl ?_))))
    refine And.intro rfl (Exists.intro _ (Exists.intro _ (And.intro (among_impl s [sCompile, sRuntime] (Nat.le_of_ble_eq_true rfl)) (And.intro (And.intro (DLe.refl _) (And.intro (DLe.tl _ rfl) trivial)) ?_))))
    refine And.intro (DLe.of_eq ?_) trivial
    have h : (kind == 3) = true := h
    simp only [inScope, if_neg h2, if_pos h]
  have h3 : ¬ (kind == 3) = true := by have h3 : (kind == 3) = false := h3; rw [h3]; decide
  refine And.intro rfl (And.intro (fun h => ?_) (fun h4 => ?_))
  · refine And.intro rfl (Exists.intro _ (Exists.intro _ (And.intro (Is_impl s) (And.intro (AsLe.refl _) ?_))))
    refine And.intro (DLe.of_eq ?_) trivial
    have h : (kind == 4) = true := h
    simp only [inScope, if_neg h2, if_neg h3, if_pos h]
  have h4 : ¬ (kind == 4) = true := by have h4 : (kind == 4) = false := h4; rw [h4]; decide
  refine And.intro rfl (And.intro (fun h => ?_) (fun h5 => ?_))
  · refine And.intro (DLe.of_eq ?_) trivial
    have h : (kind == 5) = true := h
    simp only [inScope, if_neg h2, if_neg h3, if_neg h4, if_pos h]
    rfl
  · have h5 : ¬ (kind == 5) = true := by have h5 : (kind == 5) = false := h5; rw [h5]; decide
    refine And.intro (DLe.of_eq ?_) trivial
    simp only [inScope, if_neg h2, if_neg h3, if_neg h4, if_neg h5]
    try rfl

/-- what is told of the nodes -/
def ofOf (kind : Int) : List Found → List Dep
  | [] => []
  | n :: r => if (n.kind == 1) && inScope kind n.dep.scope then n.dep :: ofOf kind r else ofOf kind r

theorem ofOf_append (kind : Int) (a b : List Found) : ofOf kind (a ++ b) = ofOf kind a ++ ofOf kind b := by
  induction a with
  | nil => rfl
  | cons n r ih => simp only [List.cons_append, ofOf, ih]; split <;> rfl

theorem ofOf_length (kind : Int) (a : List Found) : (ofOf kind a).length ≤ a.length := by
  induction a with
  | nil => simp [ofOf]
  | cons n r ih => simp only [ofOf]; split <;> simp <;> omega

def goodKind (kind : Int) : Bool := kind == 2 || kind == 3 || kind == 4 || kind == 5

end Go.Proofs.Nw.K
end
section
open Go Go.RowKit Go.Proofs
set_option linter.unusedVariables false
set_option linter.unusedSimpArgs false
namespace Go.Proofs.Nw.K

theorem beq_f {a b : Int} (h : (a == b) = false) : ¬ (a == b) = true := by rw [h]; decide

theorem Of_impl (r : Resolved) (kind : Int) (hn : r.nodes.length ≤ 4194304) (he : ∀ n ∈ r.nodes, n.dep.excluded.length ≤ 4194304) :
    Impl Try.prog 13 [.agg (encResolved r), .one (dint kind)] [.one (dDeps (if goodKind kind then ofOf kind r.nodes else [])), .one (dint (if goodKind kind then 0 else 20))] := by
  refine impl_vc tabOk Try.func13 rfl rfl (by exact Nat.le_of_ble_eq_true rfl) (vc_sound tabOk (by kernel_rfl) ?_)
  refine WP_scope_cut (α := {i : Nat // i ≤ r.nodes.length ∧ goodKind kind = true}) 0 (fun i => ofL [(1, .int kind), (2, .ptr 0 0), (4, .nils), (5, .int 0), (6, .h 1 (ofOf kind (r.nodes.take i.1)).length 0 (ofOf kind (r.nodes.take i.1)).length), (7, .d (dFounds (r.nodes.drop i.1)))])
    (fun i => [.box 26 ((encResolved r).map AV.d), .row (ofOf kind (r.nodes.take i.1)).length 35 8 ((ofOf kind (r.nodes.take i.1)).map encDep)]) (fun i => r.nodes.length - i.1) (by rfl) ?_ (fun cut => vc_sound tabOk (by kernel_rfl) ?_)
  · rintro ⟨i, hi, hk⟩
    refine vc_sound tabOk (by kernel_rfl) ?_
    refine And.intro rfl (And.intro (fun h => ?_) (fun h => ?_))
    · have h0 : r.nodes.drop i = [] := List.eq_nil_of_length_eq_zero (by simpa using h)
      have h1 : r.nodes.take i = r.nodes := List.take_of_length_le (by have := congrArg List.length h0; simp at this; omega)
      refine And.intro ⟨rfl, rfl, (List.length_map _).symm⟩ (And.intro (DLe.tl _ ?_) (And.intro (DLe.of_eq ?_) trivial))
      · rw [if_pos hk]; show List.map encDep (ofOf kind (r.nodes.take i)) = _; rw [h1]
      · rw [if_pos hk]; try rfl
    · have hlt : i < r.nodes.length := by
        have : ¬ (r.nodes.drop i).length = 0 := by simpa using h
        simp at this; omega
      have hd : r.nodes.drop i = r.nodes[i] :: r.nodes.drop (i + 1) := List.drop_eq_getElem_cons hlt
      have hg : (r.nodes.drop i).getD 0 zFound = r.nodes[i] := by rw [hd]; rfl
      have htk : r.nodes.take (i + 1) = r.nodes.take i ++ [r.nodes[i]] := List.take_succ_eq_append_getElem hlt
      refine And.intro rfl (And.intro (Int.le_refl _) (And.intro (by show (0 : Int) < ((r.nodes.drop i).length : Int); simp; omega) ?_))
      refine And.intro (Nat.le_of_ble_eq_true rfl) ?_
      refine And.intro rfl (And.intro (Nat.le_of_ble_eq_true rfl) ?_)
      refine And.intro rfl ?_
      have lt : ∀ {a b : Nat}, Nat.ble (a + 1) b = true → a < b := fun h => Nat.le_of_ble_eq_true h
      have stp : ∀ (d : Bool), d = ((r.nodes[i].kind == 1) && inScope kind r.nodes[i].dep.scope) → ofOf kind (r.nodes.take (i + 1)) = ofOf kind (r.nodes.take i) ++ (if d then [r.nodes[i].dep] else []) := fun d hd => by
        rw [htk, ofOf_append, hd]
        congr 1
      have sl : ∀ (l : List Found), (l.take l.length).drop 1 = l.drop 1 := fun l => by rw [List.take_length]
      by_cases hb : (r.nodes[i].kind == 1) = true
      · have hb' : ((((r.nodes.drop i).getD (Int.toNat 0) zFound).kind == 1) : Bool) = true := by show (((r.nodes.drop i).getD 0 zFound).kind == 1) = true; rw [hg]; exact hb
        refine And.intro (lt rfl) (And.intro (fun _ => ?_) (fun h => absurd hb' h))
        refine And.intro (lt rfl) (And.intro (fun _ => ?_) (fun h => absurd hb' h))
        refine And.intro (lt rfl) (And.intro (fun _ => ?_) (fun h => absurd hb' h))
        refine And.intro (lt rfl) (And.intro (fun _ => ?_) (fun h => absurd hb' h))
        refine And.intro (lt rfl) (And.intro (fun _ => ?_) (fun h => absurd hb' h))
        refine And.intro rfl (Exists.intro _ (Exists.intro _ (And.intro (In_impl kind ((r.nodes.drop i).getD (Int.toNat 0) zFound).dep.scope) (And.intro (AsLe.refl _) ?_))))
        refine And.intro (fun _ => ?_) (fun h => absurd hb' (by rw [h]; decide))
        refine And.intro (fun hs => ?_) (fun hs => ?_)
        · have hs : inScope kind r.nodes[i].dep.scope = true := by rw [← hg]; exact hs
          have st1 := stp true (by rw [hb, hs]; rfl)
          simp only [if_pos] at st1
          have hex : r.nodes[i].dep.excluded.length ≤ 4194304 := he _ (List.getElem_mem hlt)
          have hol := ofOf_length kind (r.nodes.take i)
          have htl : (r.nodes.take i).length ≤ r.nodes.length := by rw [List.length_take]; omega
          refine And.intro rfl ?_
          refine And.intro rfl (And.intro (Nat.le_of_ble_eq_true rfl) ?_)
          refine And.intro rfl (Exists.intro _ (Exists.intro _ (And.intro (Clone_impl ((r.nodes.drop i).getD (Int.toNat 0) zFound).dep.excluded (by show ((r.nodes.drop i).getD 0 zFound).dep.excluded.length ≤ _; rw [hg]; exact hex)) (And.intro (AsLe.refl _) ?_))))
          refine And.intro rfl (And.intro (Nat.le_of_ble_eq_true rfl) ?_)
          refine And.intro rfl ?_
          refine And.intro rfl (And.intro (by decide) (And.intro (by decide) (And.intro rfl (Or.inl ?_))))
          refine And.intro rfl (And.intro ⟨rfl, rfl, rfl, rfl⟩ (And.intro rfl (And.intro ?_ (And.intro ?_ ?_))))
          · show ((ofOf kind (r.nodes.take i)).length + 1) * 128 ≤ _; omega
          · show (ofOf kind (r.nodes.take i)).length + 1 ≤ _; simp only [maxLen]; omega
          refine And.intro rfl (And.intro (by decide) (And.intro (by show 1 ≤ (r.nodes.drop i).length; simp; omega) (And.intro (Nat.le_refl _) ?_)))
          have e1 : (ofOf kind (r.nodes.take (i + 1))).length = (ofOf kind (r.nodes.take i)).length + 1 := by rw [st1]; simp
          refine And.intro rfl ⟨⟨i + 1, hlt, hk⟩, by simp; omega, Sub.ofL _ _ (Nat.zero_le _) ⟨rfl, rfl, rfl, rfl, rfl, rfl, rfl, rfl, ?_, rfl, ?_, rfl, trivial⟩ ?_ rfl⟩
          · show AV.h 1 ((ofOf kind (r.nodes.take i)).length + 1) 0 ((ofOf kind (r.nodes.take i)).length + 1) = _
            rw [← e1]
          · show AV.d (dFounds (((r.nodes.drop i).take (r.nodes.drop i).length).drop 1)) = _
            rw [sl, List.drop_drop]
          · show [AO.box 26 ((encResolved r).map AV.d), AO.row ((ofOf kind (r.nodes.take i)).length + 1) 35 8 (((ofOf kind (r.nodes.take i)).map encDep).take (ofOf kind (r.nodes.take i)).length ++ [encDep ((r.nodes.drop i).getD 0 zFound).dep])] = _
            have e2 : ((ofOf kind (r.nodes.take i)).map encDep).take (ofOf kind (r.nodes.take i)).length = (ofOf kind (r.nodes.take i)).map encDep := List.take_of_length_le (by rw [List.length_map]; exact Nat.le_refl _)
            rw [hg, e2, ← e1]
            show _ = [AO.box 26 ((encResolved r).map AV.d), AO.row (ofOf kind (r.nodes.take (i + 1))).length 35 8 ((ofOf kind (r.nodes.take (i + 1))).map encDep)]
            rw [st1, List.map_append]; rfl
        · have hs : inScope kind r.nodes[i].dep.scope = false := by rw [← hg]; exact hs
          have st1 := stp false (by rw [hb, hs]; rfl)
          simp only [if_neg (show ¬ (false = true) by decide), List.append_nil] at st1
          refine And.intro rfl (And.intro (by decide) (And.intro (by show 1 ≤ (r.nodes.drop i).length; simp; omega) (And.intro (Nat.le_refl _) ?_)))
          refine And.intro rfl ⟨⟨i + 1, hlt, hk⟩, by simp; omega, Sub.ofL _ _ (Nat.zero_le _) ⟨rfl, rfl, rfl, rfl, rfl, rfl, rfl, rfl, ?_, rfl, ?_, rfl, trivial⟩ ?_ rfl⟩
          · show _ = AV.h 1 (ofOf kind (r.nodes.take (i + 1))).length 0 (ofOf kind (r.nodes.take (i + 1))).length
            rw [st1]; rfl
          · show AV.d (dFounds (((r.nodes.drop i).take (r.nodes.drop i).length).drop 1)) = _
            rw [sl, List.drop_drop]
          · show _ = [AO.box 26 ((encResolved r).map AV.d), AO.row (ofOf kind (r.nodes.take (i + 1))).length 35 8 ((ofOf kind (r.nodes.take (i + 1))).map encDep)]
            rw [st1]; rfl
      · have hb' : ¬ ((((r.nodes.drop i).getD (Int.toNat 0) zFound).kind == 1) : Bool) = true := by show ¬ (((r.nodes.drop i).getD 0 zFound).kind == 1) = true; rw [hg]; exact hb
        refine And.intro (lt rfl) (And.intro (fun h => absurd h hb') (fun _ => ?_))
        refine And.intro (lt rfl) (And.intro (fun h => absurd h hb') (fun _ => ?_))
        refine And.intro (lt rfl) (And.intro (fun h => absurd h hb') (fun _ => ?_))
        refine And.intro (lt rfl) (And.intro (fun h => absurd h hb') (fun _ => ?_))
        refine And.intro (lt rfl) (And.intro (fun h => absurd h hb') (fun _ => ?_))
        refine And.intro (fun h => absurd h hb') (fun _ => ?_)
        refine And.intro (fun h => by cases h) (fun _ => ?_)
        have st1 := stp false (by rw [show (r.nodes[i].kind == 1) = false by simpa using hb]; rfl)
        simp only [if_neg (show ¬ (false = true) by decide), List.append_nil] at st1
        refine And.intro rfl (And.intro (by decide) (And.intro (by show 1 ≤ (r.nodes.drop i).length; simp; omega) (And.intro (Nat.le_refl _) ?_)))
        refine And.intro rfl ⟨⟨i + 1, hlt, hk⟩, by simp; omega, Sub.ofL _ _ (Nat.zero_le _) ⟨rfl, rfl, rfl, rfl, rfl, rfl, rfl, rfl, ?_, rfl, ?_, rfl, trivial⟩ ?_ rfl⟩
        · show _ = AV.h 1 (ofOf kind (r.nodes.take (i + 1))).length 0 (ofOf kind (r.nodes.take (i + 1))).length
          rw [st1]; rfl
        · show AV.d (dFounds (((r.nodes.drop i).take (r.nodes.drop i).length).drop 1)) = _
          rw [sl, List.drop_drop]
        · show _ = [AO.box 26 ((encResolved r).map AV.d), AO.row (ofOf kind (r.nodes.take (i + 1))).length 35 8 ((ofOf kind (r.nodes.take (i + 1))).map encDep)]
          rw [st1]; rfl
  · have fin : ∀ (env : Env), env 1 = .int kind → env 2 = .ptr 0 0 → env 4 = .nils → env 5 = .int 0 → env 6 = .nils → env 7 = .d (dFounds r.nodes) →
        Sub ⟨Try.f13.ntmps, 0⟩ env [.box 26 ((encResolved r).map AV.d)] (ofL [(1, .int kind), (2, .ptr 0 0), (4, .nils), (5, .int 0), (6, .h 1 (ofOf kind (r.nodes.take 0)).length 0 (ofOf kind (r.nodes.take 0)).length), (7, .d (dFounds (r.nodes.drop 0)))])
          [.box 26 ((encResolved r).map AV.d), .row (ofOf kind (r.nodes.take 0)).length 35 8 ((ofOf kind (r.nodes.take 0)).map encDep)] := fun env h1 h2 h3 h4 h5 h6 =>
      (Sub.nilsRow 6 35 8 h5).trans (Sub.ofL _ _ (Nat.zero_le _) ⟨h1, rfl, h2, rfl, h3, rfl, h4, rfl, rfl, rfl, h6, rfl, trivial⟩ rfl rfl)
    refine And.intro rfl (And.intro (fun h2 => ?_) (fun h2 => ?_))
    · have h2 : (kind == 2) = true := h2
      refine And.intro (fun _ => ?_) (fun h => absurd h (by rw [h2]; decide))
      exact cut ⟨0, Nat.zero_le _, by simp only [goodKind, h2]; rfl⟩ _ _ (fin _ rfl rfl rfl rfl rfl rfl)
    have h2 : (kind == 2) = false := h2
    refine And.intro rfl (And.intro (fun h3 => ?_) (fun h3 => ?_))
    · have h3 : (kind == 3) = true := h3
      refine And.intro (fun _ => ?_) (fun h => absurd h (by rw [h3]; decide))
      exact cut ⟨0, Nat.zero_le _, by simp only [goodKind, h3, Bool.or_true, Bool.true_or]⟩ _ _ (fin _ rfl rfl rfl rfl rfl rfl)
    have h3 : (kind == 3) = false := h3
    refine And.intro rfl (And.intro (fun h4 => ?_) (fun h4 => ?_))
    · have h4 : (kind == 4) = true := h4
      refine And.intro (fun _ => ?_) (fun h => absurd h (by rw [h4]; decide))
      exact cut ⟨0, Nat.zero_le _, by simp only [goodKind, h4, Bool.or_true, Bool.true_or]⟩ _ _ (fin _ rfl rfl rfl rfl rfl rfl)
    have h4 : (kind == 4) = false := h4
    refine And.intro rfl (And.intro (fun h => ?_) (fun h => ?_))
    · have h5 : (kind == 5) = true := h
      exact cut ⟨0, Nat.zero_le _, by simp only [goodKind, h5, Bool.or_true, Bool.true_or]⟩ _ _ (fin _ rfl rfl rfl rfl rfl rfl)
    · have h5 : (kind == 5) = false := h
      have hg : goodKind kind = false := by simp only [goodKind, h2, h3, h4, h5]; rfl
      refine And.intro ?_ (And.intro (DLe.of_eq ?_) trivial)
      · rw [hg]; exact DLe.nils _
      · rw [hg]; rfl
end Go.Proofs.Nw.K
end
section
open Go Go.RowKit Go.Proofs
set_option linter.unusedVariables false
set_option linter.unusedSimpArgs false
namespace Go.Proofs.Nw.K

def dep0 : Dep := ⟨⟨#[103]⟩, ⟨#[97]⟩, ⟨#[49]⟩, emp, emp, sCompile, false, []⟩
def res0 : Resolved := ⟨zCoord, [⟨-1, 0, dep0, 1⟩]⟩
theorem of0 : ofOf 2 res0.nodes = [dep0] := by kernel_rfl
theorem lines0 : (linesOf [dep0]).toList = (⟨#[103, 58, 97, 58, 106, 97, 114, 58, 49, 58, 99, 111, 109, 112, 105, 108, 101, 10]⟩ : Str).toList := by decide +kernel

theorem awake_impl : Impl Try.prog 12 [] [.one (dbool true)] := by
  refine impl_vc tabOk Try.func12 rfl rfl (by exact Nat.le_of_ble_eq_true rfl) (vc_sound tabOk (by kernel_rfl) ?_)
  refine And.intro rfl (And.intro (Nat.le_of_ble_eq_true rfl) ?_)
  refine And.intro rfl ?_
  refine And.intro rfl (And.intro (by decide) (And.intro (by decide) (And.intro rfl (Or.inl ?_))))
  have hof := Of_impl res0 2 (by decide) (by intro n hn; simp [res0] at hn; subst hn; simp [dep0])
  rw [if_pos (show goodKind 2 = true by decide), if_pos (show goodKind 2 = true by decide), of0] at hof
  refine And.intro rfl (Exists.intro _ (Exists.intro _ (And.intro hof (And.intro ?_ ?_))))
  · refine And.intro (DLe.agg ?_) (And.intro (DLe.refl _) trivial)
    refine And.intro (DLe.refl _) (And.intro (DLe.refl _) (And.intro (DLe.refl _) (And.intro (DLe.tlr _ ?_) trivial)))
    refine And.intro ?_ trivial
    refine ⟨DLe.refl _, DLe.refl _, DLe.refl _, DLe.refl _, DLe.refl _, DLe.refl _, DLe.refl _, DLe.refl _, DLe.refl _, DLe.nils _, DLe.refl _, trivial⟩
  have lt : ∀ {a b : Nat}, Nat.ble (a + 1) b = true → a < b := fun h => Nat.le_of_ble_eq_true h
  refine And.intro rfl ?_
  refine And.intro (lt rfl) (And.intro (fun _ => ?_) (fun h => absurd (by rfl) h))
  refine And.intro (lt rfl) (And.intro (fun _ => ?_) (fun h => absurd (by rfl) h))
  refine And.intro (lt rfl) (And.intro (fun _ => And.intro rfl ?_) (fun h => absurd (by rfl) h))
  refine And.intro (fun _ => ?_) (fun h => by cases h)
  refine And.intro (lt rfl) (And.intro (fun _ => ?_) (fun h => absurd (by rfl) h))
  refine And.intro (lt rfl) (And.intro (fun _ => ?_) (fun h => absurd (by rfl) h))
  refine And.intro rfl (Exists.intro _ (Exists.intro _ (And.intro (Lines_impl [dep0] (by decide)) (And.intro (AsLe.refl _) ?_))))
  refine And.intro (lt rfl) (And.intro (fun _ => ?_) (fun h => absurd (by rfl) h))
  refine And.intro (fun _ => ?_) (fun h => by cases h)
  refine And.intro (DLe.of_eq ?_) trivial
  show DV.one (.sc (.bool ((linesOf [dep0]).toList == _))) = _
  rw [lines0]
  simp
end Go.Proofs.Nw.K
end
section
open Go Go.RowKit Go.Proofs
set_option linter.unusedVariables false
set_option linter.unusedSimpArgs false
namespace Go.Proofs.Nw.K

theorem ltb {a b : Nat} (h : Nat.ble (a + 1) b = true) : a < b := Nat.le_of_ble_eq_true h
theorem self_str (s : Str) : (s.toList == s.toList) = true := by simp
theorem self_bool (s : Bool) : (s == s) = true := by simp

theorem eqStrs_self : ∀ l : List ByteArray, eqStrs l l = true
  | [] => by simp [eqStrs]
  | a :: r => by simp [eqStrs, eqStrs_self r]

theorem PlainFn_self (x : Excluded) : Impl Try.prog 63 [.agg (encExcluded x), .agg (encExcluded x)] [.one (dbool true)] := by
  refine impl_vc tabOk Try.func63 rfl rfl (by exact Nat.le_of_ble_eq_true rfl) (vc_sound tabOk (by kernel_rfl) ?_)
  refine And.intro rfl (And.intro rfl ?_)
  refine And.intro rfl (And.intro rfl ?_)
  refine And.intro (DLe.of_eq ?_) trivial
  show DV.one (.sc (.bool (eqStrs [x.group, x.name] [x.group, x.name]))) = _
  rw [eqStrs_self]

theorem SameExcluded_self (l : List Excluded) (h : l.length ≤ 4194304) : Impl Try.prog 62 [.one (dExcludeds l), .one (dExcludeds l), .one (.sc (.func (.func 63) #[] #[]))] [.one (dbool true)] := by
  refine impl_vc tabOk Try.func62 rfl rfl (by exact Nat.le_of_ble_eq_true rfl) ?_
  refine WP_seq (vc_sound tabOk (by kernel_rfl) ?_)
  refine WP_seq (vc_sound tabOk (by kernel_rfl) ?_)
  refine And.intro rfl (And.intro (fun h => absurd h (by simp)) (fun _ => ?_))
  refine WP_seq (WP_seq (vc_sound tabOk (by kernel_rfl) ?_))
  refine WP_block (WP_loop (α := {i : Nat // i ≤ l.length}) (fun i => ofL [(0, .d (dExcludeds l)), (1, .d (dExcludeds l)), (2, .sc (.func (.func 63) #[] #[])), (7, .int (i.1 : Int))]) (fun _ => []) (fun i => l.length - i.1) ⟨0, by simp⟩ ?_ ?_)
  · exact Sub.ofL _ _ (Nat.le_refl _) ⟨rfl, rfl, rfl, rfl, rfl, rfl, rfl, rfl, trivial⟩ rfl rfl
  rintro ⟨i, hi⟩
  refine vc_sound tabOk (by kernel_rfl) ?_
  refine And.intro rfl (And.intro (fun h => ?_) (fun h => ?_))
  · have hlt : i < l.length := by simpa using h
    have hix : ((i : Int) : Int).toNat < l.length := by simpa using hlt
    repeat refine And.intro rfl ?_
    refine And.intro (Int.natCast_nonneg _) (And.intro (by show (i : Int) < (l.length : Int); omega) (And.intro rfl ?_))
    refine And.intro (Nat.le_of_ble_eq_true rfl) ?_
    repeat refine And.intro rfl ?_
    refine And.intro (Int.natCast_nonneg _) (And.intro (by show (i : Int) < (l.length : Int); omega) (And.intro rfl ?_))
    refine And.intro (Nat.le_of_ble_eq_true rfl) ?_
    repeat refine And.intro rfl ?_
    refine Exists.intro _ (Exists.intro _ (And.intro (PlainFn_self (l.getD ((i : Int)).toNat zExcluded)) (And.intro (AsLe.refl _) (And.intro rfl ?_))))
    refine And.intro rfl ?_
    refine And.intro (fun h => by cases h) (fun _ => ?_)
    refine And.intro rfl (And.intro ⟨by omega, by show (i : Int) + 1 ≤ _; omega⟩ ?_)
    exact ⟨⟨i + 1, hlt⟩, by simp; omega, Sub.ofL _ _ (Nat.zero_le _) ⟨rfl, rfl, rfl, rfl, rfl, rfl, rfl, rfl, trivial⟩ rfl rfl⟩
  · refine vc_sound tabOk (by kernel_rfl) ?_
    exact And.intro (DLe.refl _) trivial

theorem Plain_self (l : List Excluded) (h : l.length ≤ 4194304) : Impl Try.prog 38 [.one (dExcludeds l), .one (dExcludeds l)] [.one (dbool true)] := by
  refine impl_vc tabOk Try.func38 rfl rfl (by exact Nat.le_of_ble_eq_true rfl) (vc_sound tabOk (by kernel_rfl) ?_)
  refine And.intro rfl (Exists.intro _ (Exists.intro _ (And.intro (SameExcluded_self l h) (And.intro (AsLe.refl _) ?_))))
  exact And.intro (DLe.refl _) trivial

theorem Dep_self (d : Dep) (h : d.excluded.length ≤ 4194304) : Impl Try.prog 16 [.agg (encDep d), .agg (encDep d)] [.one (dbool true)] := by
  refine impl_vc tabOk Try.func16 rfl rfl (by exact Nat.le_of_ble_eq_true rfl) ?_
  refine WP_seq (vc_sound tabOk (by kernel_rfl) ?_)
  refine WP_sub (Sub.ofL [(2, .ptr 0 0), (3, .ptr 1 0)] [.box 35 ((encDep d).map AV.d), .box 35 ((encDep d).map AV.d)] (Nat.zero_le _) ⟨rfl, rfl, rfl, rfl, trivial⟩ rfl rfl) ?_
  refine WP_seq (vc_sound tabOk (by kernel_rfl) ?_)
  apply And.intro
  · exact ltb rfl
  refine And.intro (fun _ => ?_) (fun h => absurd (self_str d.group) h)
  apply And.intro
  · exact ltb rfl
  refine And.intro (fun _ => ?_) (fun h => absurd (self_str d.group) h)
  apply And.intro
  · exact ltb rfl
  refine And.intro (fun _ => ?_) (fun h => absurd (self_str d.group) h)
  apply And.intro
  · exact ltb rfl
  refine And.intro (fun _ => ?_) (fun h => absurd (self_str d.group) h)
  apply And.intro
  · exact ltb rfl
  refine And.intro (fun _ => ?_) (fun h => absurd (self_str d.group) h)
  refine And.intro (fun _ => ?_) (fun h => absurd ((self_str d.group).symm.trans h) (by decide))
  apply And.intro
  · exact ltb rfl
  refine And.intro (fun _ => ?_) (fun h => absurd (self_str d.name) h)
  apply And.intro
  · exact ltb rfl
  refine And.intro (fun _ => ?_) (fun h => absurd (self_str d.name) h)
  apply And.intro
  · exact ltb rfl
  refine And.intro (fun _ => ?_) (fun h => absurd (self_str d.name) h)
  apply And.intro
  · exact ltb rfl
  refine And.intro (fun _ => ?_) (fun h => absurd (self_str d.name) h)
  apply And.intro
  · exact ltb rfl
  refine And.intro (fun _ => ?_) (fun h => absurd (self_str d.name) h)
  refine And.intro (fun _ => ?_) (fun h => absurd ((self_str d.name).symm.trans h) (by decide))
  apply And.intro
  · exact ltb rfl
  refine And.intro (fun _ => ?_) (fun h => absurd (self_str d.version) h)
  apply And.intro
  · exact ltb rfl
  refine And.intro (fun _ => ?_) (fun h => absurd (self_str d.version) h)
  apply And.intro
  · exact ltb rfl
  refine And.intro (fun _ => ?_) (fun h => absurd (self_str d.version) h)
  apply And.intro
  · exact ltb rfl
  refine And.intro (fun _ => ?_) (fun h => absurd (self_str d.version) h)
  apply And.intro
  · exact ltb rfl
  refine And.intro (fun _ => ?_) (fun h => absurd (self_str d.version) h)
  refine And.intro (fun _ => ?_) (fun h => absurd ((self_str d.version).symm.trans h) (by decide))
  apply And.intro
  · exact ltb rfl
  refine And.intro (fun _ => ?_) (fun h => absurd (self_str d.type) h)
  apply And.intro
  · exact ltb rfl
  refine And.intro (fun _ => ?_) (fun h => absurd (self_str d.type) h)
  apply And.intro
  · exact ltb rfl
  refine And.intro (fun _ => ?_) (fun h => absurd (self_str d.type) h)
  apply And.intro
  · exact ltb rfl
  refine And.intro (fun _ => ?_) (fun h => absurd (self_str d.type) h)
  apply And.intro
  · exact ltb rfl
  refine And.intro (fun _ => ?_) (fun h => absurd (self_str d.type) h)
  refine And.intro (fun _ => ?_) (fun h => absurd ((self_str d.type).symm.trans h) (by decide))
  apply And.intro
  · exact ltb rfl
  refine And.intro (fun _ => ?_) (fun h => absurd (self_str d.classifier) h)
  apply And.intro
  · exact ltb rfl
  refine And.intro (fun _ => ?_) (fun h => absurd (self_str d.classifier) h)
  apply And.intro
  · exact ltb rfl
  refine And.intro (fun _ => ?_) (fun h => absurd (self_str d.classifier) h)
  apply And.intro
  · exact ltb rfl
  refine And.intro (fun _ => ?_) (fun h => absurd (self_str d.classifier) h)
  apply And.intro
  · exact ltb rfl
  refine And.intro (fun _ => ?_) (fun h => absurd (self_str d.classifier) h)
  refine And.intro (fun _ => ?_) (fun h => absurd ((self_str d.classifier).symm.trans h) (by decide))
  apply And.intro
  · exact ltb rfl
  refine And.intro (fun _ => ?_) (fun h => absurd (self_str d.scope) h)
  apply And.intro
  · exact ltb rfl
  refine And.intro (fun _ => ?_) (fun h => absurd (self_str d.scope) h)
  apply And.intro
  · exact ltb rfl
  refine And.intro (fun _ => ?_) (fun h => absurd (self_str d.scope) h)
  apply And.intro
  · exact ltb rfl
  refine And.intro (fun _ => ?_) (fun h => absurd (self_str d.scope) h)
  apply And.intro
  · exact ltb rfl
  refine And.intro (fun _ => ?_) (fun h => absurd (self_str d.scope) h)
  refine And.intro rfl ?_
  refine And.intro (fun _ => ?_) (fun h => absurd ((self_str d.scope).symm.trans h) (by decide))
  apply And.intro
  · exact ltb rfl
  refine And.intro (fun _ => ?_) (fun h => absurd (self_bool d.optional) h)
  apply And.intro
  · exact ltb rfl
  refine And.intro (fun _ => ?_) (fun h => absurd (self_bool d.optional) h)
  apply And.intro
  · exact ltb rfl
  refine And.intro (fun _ => ?_) (fun h => absurd (self_bool d.optional) h)
  apply And.intro
  · exact ltb rfl
  refine And.intro (fun _ => ?_) (fun h => absurd (self_bool d.optional) h)
  apply And.intro
  · exact ltb rfl
  refine And.intro (fun _ => ?_) (fun h => absurd (self_bool d.optional) h)
  refine And.intro rfl (Exists.intro _ (Exists.intro _ (And.intro (Plain_self d.excluded h) (And.intro (AsLe.refl _) ?_))))
  refine And.intro (fun _ => ?_) (fun h => absurd ((self_bool d.optional).symm.trans h) (by decide))
  refine WP_ret ?_
  exact And.intro (DLe.refl _) trivial

theorem SameDep_self (l : List Dep) (h : l.length ≤ 4194304) (he : ∀ d ∈ l, d.excluded.length ≤ 4194304) : Impl Try.prog 15 [.one (dDeps l), .one (dDeps l), .one (.sc (.func (.func 16) #[] #[]))] [.one (dbool true)] := by
  refine impl_vc tabOk Try.func15 rfl rfl (by exact Nat.le_of_ble_eq_true rfl) ?_
  refine WP_seq (vc_sound tabOk (by kernel_rfl) ?_)
  refine WP_seq (vc_sound tabOk (by kernel_rfl) ?_)
  refine And.intro rfl (And.intro (fun h => absurd h (by simp)) (fun _ => ?_))
  refine WP_seq (WP_seq (vc_sound tabOk (by kernel_rfl) ?_))
  refine WP_block (WP_loop (α := {i : Nat // i ≤ l.length}) (fun i => ofL [(0, .d (dDeps l)), (1, .d (dDeps l)), (2, .sc (.func (.func 16) #[] #[])), (7, .int (i.1 : Int))]) (fun _ => []) (fun i => l.length - i.1) ⟨0, by simp⟩ ?_ ?_)
  · exact Sub.ofL _ _ (Nat.le_refl _) ⟨rfl, rfl, rfl, rfl, rfl, rfl, rfl, rfl, trivial⟩ rfl rfl
  rintro ⟨i, hi⟩
  refine vc_sound tabOk (by kernel_rfl) ?_
  refine And.intro rfl (And.intro (fun h => ?_) (fun h => ?_))
  · have hlt : i < l.length := by simpa using h
    have hix : ((i : Int) : Int).toNat < l.length := by simpa using hlt
    repeat refine And.intro rfl ?_
    refine And.intro (Int.natCast_nonneg _) (And.intro (by show (i : Int) < (l.length : Int); omega) (And.intro rfl ?_))
    refine And.intro (Nat.le_of_ble_eq_true rfl) ?_
    repeat refine And.intro rfl ?_
    refine And.intro (Int.natCast_nonneg _) (And.intro (by show (i : Int) < (l.length : Int); omega) (And.intro rfl ?_))
    refine And.intro (Nat.le_of_ble_eq_true rfl) ?_
    repeat refine And.intro rfl ?_
    refine Exists.intro _ (Exists.intro _ (And.intro (Dep_self (l.getD ((i : Int)).toNat zDep) (by rw [show l.getD ((i : Int)).toNat zDep = l[i] by simp [List.getD, hlt]]; exact he _ (List.getElem_mem hlt))) (And.intro (AsLe.refl _) (And.intro rfl ?_))))
    refine And.intro rfl ?_
    refine And.intro (fun h => by cases h) (fun _ => ?_)
    refine And.intro rfl (And.intro ⟨by omega, by show (i : Int) + 1 ≤ _; omega⟩ ?_)
    exact ⟨⟨i + 1, hlt⟩, by simp; omega, Sub.ofL _ _ (Nat.zero_le _) ⟨rfl, rfl, rfl, rfl, rfl, rfl, rfl, rfl, trivial⟩ rfl rfl⟩
  · refine vc_sound tabOk (by kernel_rfl) ?_
    exact And.intro (DLe.refl _) trivial

end Go.Proofs.Nw.K
end
