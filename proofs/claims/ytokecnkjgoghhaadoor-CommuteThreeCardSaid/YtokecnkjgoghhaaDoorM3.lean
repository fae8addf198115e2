/- DERIVED: THE SHELF's CONTRACTS AT THIS DUMP, IN PLAIN WORDS (tools/lay-plain.mjs out of 'TrydShelf.lean', which tools/lay-shelf.mjs wrote): THE SAME DECLARATIONS UNDER THE SAME NAMES: 'import', 'namespace', 'open', 'def', 'theorem' AND NOTHING ELSE: no command of the shelf's: FOR A HAND-IN. Each laying: the table of numbers ('.._ren') and one theorem, a field a fact of the dump's own or the kernel's comparison; each contract: ONE APPLICATION. What the program's calls need of the package variables that Go's library reads: the tables of unicode/utf8 as their text lays them, and a whole number in -/
import Derived.Test.YtokecnkjgoghhaaDoorM2
import Derived.Test.YtokecnkjgoghhaaDoorM1
import Derived.Shelf.Unicode.ValidAny
import Derived.Shelf.Strings.Builder1
import Derived.Shelf.Strings.Builder2
import Derived.Shelf.Small.Bits
import Derived.Shelf.Strconv.Itoa0
import Derived.Shelf.Strings.Search1
import Derived.Shelf.Strings.Search2
import Derived.Shelf.Strings.Search3
import Derived.Shelf.Strings.Count
import Derived.Shelf.LaysM
import Derived.Shelf.Strings.Shaped
import Derived.Shelf.Sort.Plain
import Derived.Shelf.GgClosure.StringsIndexFunc
import Derived.Ground.GgwProg
import Derived.Shelf.GgClosure.StringsIndexFuncTop
import Derived.Shelf.GgClosure.StringsRunes
import Derived.Shelf.Strings.Prefix
import Derived.Shelf.Strings.Split
import Derived.Shelf.Strings.SplitShaped
import Derived.Shelf.Unicode.Decode
import Derived.Shelf.Unicode.DecodeSlow
import Derived.Shelf.Unicode.DecodeAny
import Derived.Shelf.Strings.FuncGrows
import Derived.Shelf.Slices.Turned
import Derived.Shelf.Slices.Equal
import Derived.Ground.Names2Prog
import Derived.Shelf.Slices.Clone
import Derived.Shelf.Slices.CompactS
import Derived.Shelf.Slices.Cells
import Derived.Shelf.Slices.In.SortNone
import Derived.Shelf.Slices.Empties2
import Derived.Test.YtokecnkjgoghhaaDoorProg
import Derived.Below
import Derived.WalkKit
import Derived.WalkSpells
import Derived.Lib.Hide
import Derived.KernelRfl
import Derived.RowKit3
import Derived.BigQuiet
import Derived.Deep.QuietTactic
import Derived.Deep.LoopGhost
import Derived.Lib.OthersKept
section
/-
  DERIVED: THE SHELF's CONTRACTS AT THIS DUMP, IN PLAIN WORDS (tools/lay-plain.mjs out of 'TrydShelf.lean', which tools/lay-shelf.mjs wrote): THE SAME DECLARATIONS UNDER THE SAME NAMES: 'import', 'namespace', 'open', 'def', 'theorem' AND NOTHING ELSE: no command of the shelf's: FOR A HAND-IN. Each laying: the table of numbers ('.._ren') and one theorem, a field a fact of the dump's own or the kernel's comparison; each contract: ONE APPLICATION.
-/
namespace Go.Proofs
open Go.Shelf
def Tryd.lays169_ren : Go.Shelf.Ren := ⟨fun | 169 => 202 | n => n, fun | 70 => 204 | 9 => 9 | 0 => 0 | 72 => 206 | 37 => 100 | 127 => 228 | 3 => 3 | 5 => 5 | n => n, fun | n => n⟩
theorem Tryd.lays169 : Go.Proofs.Lays.n169 Tryd.prog Tryd.lays169_ren := {
  mixed := by kernel_rfl
  f169 := Tryd.func202.trans (congrArg some (by kernel_rfl))
  t0 := Tryd.underlying0
  a0 := Tryd.isAgg0
  z0 := Tryd.sizeOf0
  v0 := Tryd.zeroValue0
  t3 := Tryd.underlying3
  a3 := Tryd.isAgg3
  z3 := Tryd.sizeOf3
  v3 := Tryd.zeroValue3
  t9 := Tryd.underlying9
  a9 := Tryd.isAgg9
  z9 := Tryd.sizeOf9
  v9 := Tryd.zeroValue9
  t37 := Tryd.underlying100
  a37 := Tryd.isAgg100
  z37 := Tryd.sizeOf100
  v37 := Tryd.zeroValue100
  t70 := Tryd.underlying204
  a70 := Tryd.isAgg204
  z70 := Tryd.sizeOf204
  v70 := Tryd.zeroValue204
  t72 := Tryd.underlying206
  a72 := Tryd.isAgg206
  z72 := Tryd.sizeOf206
  v72 := Tryd.zeroValue206
  t127 := Tryd.underlying228
  a127 := Tryd.isAgg228
  z127 := Tryd.sizeOf228
  v127 := Tryd.zeroValue228 }
theorem Tryd.Builder_Extra_169 : Builder.Extra Tryd.prog Tryd.lays169_ren := {
  sizeBuilder := by kernel_rfl
  liesBuilder := by kernel_rfl
  t5 := Tryd.underlying5
  a5 := Tryd.isAgg5
  z5 := Tryd.sizeOf5
  v5 := Tryd.zeroValue5
  infoByte := by kernel_rfl
  cellsByte := by kernel_rfl
  sizeByte := by kernel_rfl
  neB5 := by decide }
open Go.RowKit in
/-- (*strings.Builder).String: "String returns the accumulated string.": OF A BUILDER THAT HOLDS AT LEAST ONE BYTE. ✋ THE MODEL FREEZES THOSE BYTES IN THE BUFFER (unsafe.String): a later write INTO them ends the model's run without an answer; a later append BEHIND them goes on. The statement's order of evaluation is drawn: one draw. (LAID: no walk: one application.) -/
theorem Tryd.Builder_String (B b : Nat) (l : List UInt8) (w : World) (h : Lib.IsBuilder 206 5 B b (Lib.byteCells l) w) (h0 : l ≠ []) :
    Calls Tryd.prog 202 #[.pointer (some ⟨b, 0, none⟩)] w fun e w' => e = .returned (.string ⟨l.toArray⟩) ∧ Below B w w' := Any.Builder_String Tryd.lays169 Tryd.Builder_Extra_169 B b l w h h0
open Go.RowKit in
/-- (*strings.Builder).String OF A BUILDER THAT HOLDS NO BYTE: the empty string. (Its buffer is nil, or a row of which it has taken nothing yet; where that row has NO capacity the model lays one new block for unsafe.SliceData's 'some address'.) One draw. (LAID: no walk: one application.) -/
theorem Tryd.Builder_String_empty (B b : Nat) (w : World) (h : Lib.IsBuilder 206 5 B b [] w) (hBw : B ≤ w.heap.size) :
    Calls Tryd.prog 202 #[.pointer (some ⟨b, 0, none⟩)] w fun e w' => e = .returned (.string ⟨#[]⟩) ∧ Below B w w' := Any.Builder_String_empty Tryd.lays169 Tryd.Builder_Extra_169 B b w h hBw
open Go.RowKit in
/-- (*strings.Builder).String: "String returns the accumulated string.": WHATEVER THE BUILDER HOLDS. (LAID: no walk: one application.) -/
theorem Tryd.Builder_String_any (B b : Nat) (l : List UInt8) (w : World) (h : Lib.IsBuilder 206 5 B b (Lib.byteCells l) w) (hBw : B ≤ w.heap.size) :
    Calls Tryd.prog 202 #[.pointer (some ⟨b, 0, none⟩)] w fun e w' => e = .returned (.string ⟨l.toArray⟩) ∧ Below B w w' := Any.Builder_String_any Tryd.lays169 Tryd.Builder_Extra_169 B b l w h hBw
def Tryd.lays241_ren : Go.Shelf.Ren := ⟨fun | 241 => 222 | 277 => 235 | n => n, fun | 70 => 204 | 3 => 3 | 0 => 0 | 72 => 206 | 37 => 100 | 5 => 5 | n => n, fun | n => n⟩
theorem Tryd.lays241 : Go.Proofs.Lays.n241 Tryd.prog Tryd.lays241_ren := {
  mixed := by kernel_rfl
  f241 := Tryd.func222.trans (congrArg some (by kernel_rfl))
  f277 := Tryd.func235.trans (congrArg some (by kernel_rfl))
  t0 := Tryd.underlying0
  a0 := Tryd.isAgg0
  z0 := Tryd.sizeOf0
  v0 := Tryd.zeroValue0
  t3 := Tryd.underlying3
  a3 := Tryd.isAgg3
  z3 := Tryd.sizeOf3
  v3 := Tryd.zeroValue3
  t37 := Tryd.underlying100
  a37 := Tryd.isAgg100
  z37 := Tryd.sizeOf100
  v37 := Tryd.zeroValue100
  t70 := Tryd.underlying204
  a70 := Tryd.isAgg204
  z70 := Tryd.sizeOf204
  v70 := Tryd.zeroValue204
  t72 := Tryd.underlying206
  a72 := Tryd.isAgg206
  z72 := Tryd.sizeOf206
  v72 := Tryd.zeroValue206 }
theorem Tryd.Builder_Extra_241 : Builder.Extra Tryd.prog Tryd.lays241_ren := {
  sizeBuilder := by kernel_rfl
  liesBuilder := by kernel_rfl
  t5 := Tryd.underlying5
  a5 := Tryd.isAgg5
  z5 := Tryd.sizeOf5
  v5 := Tryd.zeroValue5
  infoByte := by kernel_rfl
  cellsByte := by kernel_rfl
  sizeByte := by kernel_rfl
  neB5 := by decide }
open Go.RowKit in
/-- (*strings.Builder).grow (no doc but "grow copies the buffer to a new, larger buffer so that there are at least n bytes of capacity beyond len(b.buf)."): AT A BUILDER WITHOUT A BUFFER: a new row of whatever bytes for its buffer, none of them its own yet. Three draws. (LAID: no walk: one application.) -/
theorem Tryd.Builder_grow_fresh (B b n : Nat) (w : World) (hB : B ≤ b) (hbk : w.heap[b]? = some (.cells #[.pointer (some ⟨b, 0, none⟩), .slice none 0 0] 206 (0, 0))) (hBw : B ≤ w.heap.size) (hn : n ≤ 281474976710656) :
    Calls Tryd.prog 222 #[.pointer (some ⟨b, 0, none⟩), .int .i64 n] w fun e w' => e = .returned (.tuple #[]) ∧ (Lib.BuilderAt 206 5 B b (.pointer (some ⟨b, 0, none⟩)) [] w' ∧ Below B w w') := Any.Builder_grow_fresh Tryd.lays241 Tryd.Builder_Extra_241 B b n w hB hbk hBw hn
def Tryd.lays165_ren : Go.Shelf.Ren := ⟨fun | 165 => 200 | 240 => 221 | 241 => 222 | 276 => 234 | 277 => 235 | n => n, fun | 70 => 204 | 3 => 3 | 0 => 0 | 4 => 4 | 9 => 9 | 20 => 20 | 72 => 206 | 37 => 100 | 164 => 235 | 5 => 5 | n => n, fun | n => n⟩
theorem Tryd.lays165 : Go.Proofs.Lays.n165 Tryd.prog Tryd.lays165_ren := {
  mixed := by kernel_rfl
  f165 := Tryd.func200.trans (congrArg some (by kernel_rfl))
  f240 := Tryd.func221.trans (congrArg some (by kernel_rfl))
  f241 := Tryd.func222.trans (congrArg some (by kernel_rfl))
  f276 := Tryd.func234.trans (congrArg some (by kernel_rfl))
  f277 := Tryd.func235.trans (congrArg some (by kernel_rfl))
  t0 := Tryd.underlying0
  a0 := Tryd.isAgg0
  z0 := Tryd.sizeOf0
  v0 := Tryd.zeroValue0
  t3 := Tryd.underlying3
  a3 := Tryd.isAgg3
  z3 := Tryd.sizeOf3
  v3 := Tryd.zeroValue3
  t4 := Tryd.underlying4
  a4 := Tryd.isAgg4
  z4 := Tryd.sizeOf4
  v4 := Tryd.zeroValue4
  t9 := Tryd.underlying9
  a9 := Tryd.isAgg9
  z9 := Tryd.sizeOf9
  v9 := Tryd.zeroValue9
  t20 := Tryd.underlying20
  a20 := Tryd.isAgg20
  z20 := Tryd.sizeOf20
  v20 := Tryd.zeroValue20
  t37 := Tryd.underlying100
  a37 := Tryd.isAgg100
  z37 := Tryd.sizeOf100
  v37 := Tryd.zeroValue100
  t70 := Tryd.underlying204
  a70 := Tryd.isAgg204
  z70 := Tryd.sizeOf204
  v70 := Tryd.zeroValue204
  t72 := Tryd.underlying206
  a72 := Tryd.isAgg206
  z72 := Tryd.sizeOf206
  v72 := Tryd.zeroValue206
  t164 := Tryd.underlying235
  a164 := Tryd.isAgg235
  z164 := Tryd.sizeOf235
  v164 := Tryd.zeroValue235 }
theorem Tryd.Builder_Extra_165 : Builder.Extra Tryd.prog Tryd.lays165_ren := {
  sizeBuilder := by kernel_rfl
  liesBuilder := by kernel_rfl
  t5 := Tryd.underlying5
  a5 := Tryd.isAgg5
  z5 := Tryd.sizeOf5
  v5 := Tryd.zeroValue5
  infoByte := by kernel_rfl
  cellsByte := by kernel_rfl
  sizeByte := by kernel_rfl
  neB5 := by decide }
open Go.RowKit in
/-- (*strings.Builder).Grow AT A BUILDER THAT HAS NOT BEEN WRITTEN ('var b strings.Builder; b.Grow(n)'): "Grow grows b's capacity, if necessary, to guarantee space for another n bytes.": it holds no byte behind it as before it. (LAID: no walk: one application.) -/
theorem Tryd.Builder_Grow_fresh (B b n : Nat) (w : World) (hB : B ≤ b) (hbk : w.heap[b]? = some (.cells #[.pointer none, .slice none 0 0] 206 (0, 0))) (hBw : B ≤ w.heap.size) (hn : n ≤ 281474976710656) :
    Calls Tryd.prog 200 #[.pointer (some ⟨b, 0, none⟩), .int .i64 n] w fun e w' => e = .returned (.tuple #[]) ∧ (Lib.BuilderAt 206 5 B b (.pointer (some ⟨b, 0, none⟩)) [] w' ∧ Below B w w') := Any.Builder_Grow_fresh Tryd.lays165 Tryd.Builder_Extra_165 B b n w hB hbk hBw hn
def Tryd.lays128_ren : Go.Shelf.Ren := ⟨fun | 128 => 212 | n => n, fun | 51 => 219 | 3 => 3 | 4 => 4 | 46 => 181 | 5 => 5 | 9 => 9 | n => n, fun | n => n⟩
theorem Tryd.lays128 : Go.Proofs.Lays.n128 Tryd.prog Tryd.lays128_ren := {
  mixed := by kernel_rfl
  f128 := Tryd.func212.trans (congrArg some (by kernel_rfl))
  t3 := Tryd.underlying3
  a3 := Tryd.isAgg3
  z3 := Tryd.sizeOf3
  v3 := Tryd.zeroValue3
  t4 := Tryd.underlying4
  a4 := Tryd.isAgg4
  z4 := Tryd.sizeOf4
  v4 := Tryd.zeroValue4
  t5 := Tryd.underlying5
  a5 := Tryd.isAgg5
  z5 := Tryd.sizeOf5
  v5 := Tryd.zeroValue5
  t9 := Tryd.underlying9
  a9 := Tryd.isAgg9
  z9 := Tryd.sizeOf9
  v9 := Tryd.zeroValue9
  t46 := Tryd.underlying181
  a46 := Tryd.isAgg181
  z46 := Tryd.sizeOf181
  v46 := Tryd.zeroValue181
  t51 := Tryd.underlying219
  a51 := Tryd.isAgg219
  z51 := Tryd.sizeOf219
  v51 := Tryd.zeroValue219 }
/-- bits.Len32: "Len32 returns the minimum number of bits required to represent x; the result is 0 for x == 0.": IT RETURNS 'Lib.bitLen x'; the world is as it was. ('h0', 'h1': x is a uint32.) (LAID: no walk: one application.) -/
theorem Tryd.bits_Len32 (x : Int) (w : World) (h0 : 0 ≤ x) (h1 : x ≤ 4294967295) :
    Calls Tryd.prog 212 #[.int .u32 x] w fun e w' => e = .returned (.int .i64 (Lib.bitLen x.toNat)) ∧ w' = w := Any.bits_Len32 Tryd.lays128 x w h0 h1
def Tryd.lays125_ren : Go.Shelf.Ren := ⟨fun | 125 => 182 | 128 => 212 | 129 => 213 | n => n, fun | 46 => 181 | 3 => 3 | 51 => 219 | 53 => 150 | 4 => 4 | 5 => 5 | 9 => 9 | n => n, fun | n => n⟩
theorem Tryd.lays125 : Go.Proofs.Lays.n125 Tryd.prog Tryd.lays125_ren := {
  mixed := by kernel_rfl
  f125 := Tryd.func182.trans (congrArg some (by kernel_rfl))
  f128 := Tryd.func212.trans (congrArg some (by kernel_rfl))
  f129 := Tryd.func213.trans (congrArg some (by kernel_rfl))
  t3 := Tryd.underlying3
  a3 := Tryd.isAgg3
  z3 := Tryd.sizeOf3
  v3 := Tryd.zeroValue3
  t4 := Tryd.underlying4
  a4 := Tryd.isAgg4
  z4 := Tryd.sizeOf4
  v4 := Tryd.zeroValue4
  t5 := Tryd.underlying5
  a5 := Tryd.isAgg5
  z5 := Tryd.sizeOf5
  v5 := Tryd.zeroValue5
  t9 := Tryd.underlying9
  a9 := Tryd.isAgg9
  z9 := Tryd.sizeOf9
  v9 := Tryd.zeroValue9
  t46 := Tryd.underlying181
  a46 := Tryd.isAgg181
  z46 := Tryd.sizeOf181
  v46 := Tryd.zeroValue181
  t51 := Tryd.underlying219
  a51 := Tryd.isAgg219
  z51 := Tryd.sizeOf219
  v51 := Tryd.zeroValue219
  t53 := Tryd.underlying150
  a53 := Tryd.isAgg150
  z53 := Tryd.sizeOf150
  v53 := Tryd.zeroValue150 }
/-- bits.Len: "Len returns the minimum number of bits required to represent x; the result is 0 for x == 0.": IT RETURNS 'Lib.bitLen x'; the world is as it was. (A uint has 64 bits in the model.) ITS CALLEE bits.Len64 IS MET BY ITS OWN CONTRACT OFF THE SHELF (lay that first). (LAID: no walk: one application.) -/
theorem Tryd.bits_Len (x : Int) (w : World) (h0 : 0 ≤ x) (h1 : x ≤ 18446744073709551615) :
    Calls Tryd.prog 182 #[.int .u64 x] w fun e w' => e = .returned (.int .i64 (Lib.bitLen x.toNat)) ∧ w' = w := Any.bits_Len Tryd.lays125 x w h0 h1
def Tryd.lays129_ren : Go.Shelf.Ren := ⟨fun | 129 => 213 | n => n, fun | 53 => 150 | 3 => 3 | 4 => 4 | 46 => 181 | 5 => 5 | 9 => 9 | n => n, fun | n => n⟩
theorem Tryd.lays129 : Go.Proofs.Lays.n129 Tryd.prog Tryd.lays129_ren := {
  mixed := by kernel_rfl
  f129 := Tryd.func213.trans (congrArg some (by kernel_rfl))
  t3 := Tryd.underlying3
  a3 := Tryd.isAgg3
  z3 := Tryd.sizeOf3
  v3 := Tryd.zeroValue3
  t4 := Tryd.underlying4
  a4 := Tryd.isAgg4
  z4 := Tryd.sizeOf4
  v4 := Tryd.zeroValue4
  t5 := Tryd.underlying5
  a5 := Tryd.isAgg5
  z5 := Tryd.sizeOf5
  v5 := Tryd.zeroValue5
  t9 := Tryd.underlying9
  a9 := Tryd.isAgg9
  z9 := Tryd.sizeOf9
  v9 := Tryd.zeroValue9
  t46 := Tryd.underlying181
  a46 := Tryd.isAgg181
  z46 := Tryd.sizeOf181
  v46 := Tryd.zeroValue181
  t53 := Tryd.underlying150
  a53 := Tryd.isAgg150
  z53 := Tryd.sizeOf150
  v53 := Tryd.zeroValue150 }
/-- bits.Len64: "Len64 returns the minimum number of bits required to represent x; the result is 0 for x == 0.": IT RETURNS 'Lib.bitLen x'; the world is as it was. ('h0', 'h1': x is a uint64.) (LAID: no walk: one application.) -/
theorem Tryd.bits_Len64 (x : Int) (w : World) (h0 : 0 ≤ x) (h1 : x ≤ 18446744073709551615) :
    Calls Tryd.prog 213 #[.int .u64 x] w fun e w' => e = .returned (.int .i64 (Lib.bitLen x.toNat)) ∧ w' = w := Any.bits_Len64 Tryd.lays129 x w h0 h1
def Tryd.lays217_ren : Go.Shelf.Ren := ⟨fun | 217 => 229 | 266 => 237 | n => n, fun | 9 => 9 | 5 => 5 | 3 => 3 | n => n, fun | n => n⟩
theorem Tryd.lays217 : Go.Proofs.Lays.n217 Tryd.prog Tryd.lays217_ren := {
  mixed := by kernel_rfl
  f217 := Tryd.func229.trans (congrArg some (by kernel_rfl))
  f266 := Tryd.func237.trans (congrArg some (by kernel_rfl))
  t3 := Tryd.underlying3
  a3 := Tryd.isAgg3
  z3 := Tryd.sizeOf3
  v3 := Tryd.zeroValue3
  t5 := Tryd.underlying5
  a5 := Tryd.isAgg5
  z5 := Tryd.sizeOf5
  v5 := Tryd.zeroValue5
  t9 := Tryd.underlying9
  a9 := Tryd.isAgg9
  z9 := Tryd.sizeOf9
  v9 := Tryd.zeroValue9 }
open Go.RowKit Go.Lib in
/-- internal/stringslite.IndexByte (what strings.IndexByte calls): IT RETURNS 'Lib.indexByte s c'; the world is as it was. (LAID: no walk: one application.) -/
theorem Tryd.stringslite_IndexByte (s : ByteArray) (c : Int) (w : World) :
    Calls Tryd.prog 229 #[.string s, .int .u8 c] w fun e w' => e = .returned (.int .i64 (Lib.indexByte s.data.toList c.toNat.toUInt8)) ∧ w' = w := Any.stringslite_IndexByte Tryd.lays217 s c w
def Tryd.lays224_ren : Go.Shelf.Ren := ⟨fun | 224 => 231 | n => n, fun | 3 => 3 | n => n, fun | n => n⟩
theorem Tryd.lays224 : Go.Proofs.Lays.n224 Tryd.prog Tryd.lays224_ren := {
  mixed := by kernel_rfl
  f224 := Tryd.func231.trans (congrArg some (by kernel_rfl))
  t3 := Tryd.underlying3
  a3 := Tryd.isAgg3
  z3 := Tryd.sizeOf3
  v3 := Tryd.zeroValue3 }
open Go.RowKit Go.Lib in
/-- internal/bytealg.Cutover: "Cutover reports the number of failures of IndexByte we should tolerate before switching over to Index. n is the number of bytes processed so far.": on amd64: (n + 16) / 8. (LAID: no walk: one application.) -/
theorem Tryd.bytealg_Cutover (n : Int) (h0 : 0 ≤ n) (h1 : n < 4611686018427387904) (w : World) :
    Calls Tryd.prog 231 #[.int .i64 n] w fun e w' => e = .returned (.int .i64 ((n + 16) / 8)) ∧ w' = w := Any.bytealg_Cutover Tryd.lays224 n h0 h1 w
def Tryd.lays314_ren : Go.Shelf.Ren := ⟨fun | 314 => 238 | n => n, fun | 9 => 9 | 51 => 219 | 3 => 3 | 4 => 4 | 5 => 5 | 46 => 181 | n => n, fun | n => n⟩
theorem Tryd.lays314 : Go.Proofs.Lays.n314 Tryd.prog Tryd.lays314_ren := {
  mixed := by kernel_rfl
  f314 := Tryd.func238.trans (congrArg some (by kernel_rfl))
  t3 := Tryd.underlying3
  a3 := Tryd.isAgg3
  z3 := Tryd.sizeOf3
  v3 := Tryd.zeroValue3
  t4 := Tryd.underlying4
  a4 := Tryd.isAgg4
  z4 := Tryd.sizeOf4
  v4 := Tryd.zeroValue4
  t5 := Tryd.underlying5
  a5 := Tryd.isAgg5
  z5 := Tryd.sizeOf5
  v5 := Tryd.zeroValue5
  t9 := Tryd.underlying9
  a9 := Tryd.isAgg9
  z9 := Tryd.sizeOf9
  v9 := Tryd.zeroValue9
  t46 := Tryd.underlying181
  a46 := Tryd.isAgg181
  z46 := Tryd.sizeOf181
  v46 := Tryd.zeroValue181
  t51 := Tryd.underlying219
  a51 := Tryd.isAgg219
  z51 := Tryd.sizeOf219
  v51 := Tryd.zeroValue219 }
open Go.RowKit Go.Lib in
/-- hashStr: "returns the hash and the appropriate multiplicative factor for use in Rabin-Karp algorithm": THE HASH OF ALL OF sep, AND 16777619 ^ len(sep), both in uint32. (LAID: no walk: one application.) -/
theorem Tryd.bytealg_hashStr (sep : ByteArray) (hs : sep.size < 4294967281) (w : World) :
    Calls Tryd.prog 238 #[.string sep] w fun e w' => e = .returned (.tuple #[.int .u32 (RK.H sep.data.toList % 4294967296), .int .u32 (16777619 ^ sep.size % 4294967296)]) ∧ w' = w := Any.bytealg_hashStr Tryd.lays314 sep hs w
def Tryd.lays267_ren : Go.Shelf.Ren := ⟨fun | 267 => 232 | 314 => 238 | n => n, fun | 9 => 9 | 3 => 3 | 146 => 240 | 51 => 219 | 4 => 4 | 5 => 5 | 46 => 181 | n => n, fun | n => n⟩
theorem Tryd.lays267 : Go.Proofs.Lays.n267 Tryd.prog Tryd.lays267_ren := {
  mixed := by kernel_rfl
  f267 := Tryd.func232.trans (congrArg some (by kernel_rfl))
  f314 := Tryd.func238.trans (congrArg some (by kernel_rfl))
  t3 := Tryd.underlying3
  a3 := Tryd.isAgg3
  z3 := Tryd.sizeOf3
  v3 := Tryd.zeroValue3
  t4 := Tryd.underlying4
  a4 := Tryd.isAgg4
  z4 := Tryd.sizeOf4
  v4 := Tryd.zeroValue4
  t5 := Tryd.underlying5
  a5 := Tryd.isAgg5
  z5 := Tryd.sizeOf5
  v5 := Tryd.zeroValue5
  t9 := Tryd.underlying9
  a9 := Tryd.isAgg9
  z9 := Tryd.sizeOf9
  v9 := Tryd.zeroValue9
  t46 := Tryd.underlying181
  a46 := Tryd.isAgg181
  z46 := Tryd.sizeOf181
  v46 := Tryd.zeroValue181
  t51 := Tryd.underlying219
  a51 := Tryd.isAgg219
  z51 := Tryd.sizeOf219
  v51 := Tryd.zeroValue219
  t146 := Tryd.underlying240
  a146 := Tryd.isAgg240
  z146 := Tryd.sizeOf240
  v146 := Tryd.zeroValue240 }
open Go.RowKit Go.Lib in
theorem Tryd.bytealg_IndexRabinKarp (s sep : ByteArray) (h1 : 1 ≤ sep.size) (h2 : sep.size ≤ s.size) (hs : s.size < 4294967281) (w : World) :
    Calls Tryd.prog 232 #[.string s, .string sep] w fun e w' => e = .returned (.int .i64 (Lib.index s.data.toList sep.data.toList)) ∧ w' = w := Any.bytealg_IndexRabinKarp Tryd.lays267 s sep h1 h2 hs w
def Tryd.lays219_ren : Go.Shelf.Ren := ⟨fun | 219 => 218 | 217 => 229 | 225 => 230 | 224 => 231 | 267 => 232 | 266 => 237 | 314 => 238 | n => n, fun | 9 => 9 | 3 => 3 | 4 => 4 | 5 => 5 | 46 => 181 | 146 => 240 | 51 => 219 | n => n, fun | 1 => 2 | n => n⟩
theorem Tryd.lays219 : Go.Proofs.Lays.n219 Tryd.prog Tryd.lays219_ren := {
  mixed := by kernel_rfl
  f217 := Tryd.func229.trans (congrArg some (by kernel_rfl))
  f219 := Tryd.func218.trans (congrArg some (by kernel_rfl))
  f224 := Tryd.func231.trans (congrArg some (by kernel_rfl))
  f225 := Tryd.func230.trans (congrArg some (by kernel_rfl))
  f266 := Tryd.func237.trans (congrArg some (by kernel_rfl))
  f267 := Tryd.func232.trans (congrArg some (by kernel_rfl))
  f314 := Tryd.func238.trans (congrArg some (by kernel_rfl))
  t3 := Tryd.underlying3
  a3 := Tryd.isAgg3
  z3 := Tryd.sizeOf3
  v3 := Tryd.zeroValue3
  t4 := Tryd.underlying4
  a4 := Tryd.isAgg4
  z4 := Tryd.sizeOf4
  v4 := Tryd.zeroValue4
  t5 := Tryd.underlying5
  a5 := Tryd.isAgg5
  z5 := Tryd.sizeOf5
  v5 := Tryd.zeroValue5
  t9 := Tryd.underlying9
  a9 := Tryd.isAgg9
  z9 := Tryd.sizeOf9
  v9 := Tryd.zeroValue9
  t46 := Tryd.underlying181
  a46 := Tryd.isAgg181
  z46 := Tryd.sizeOf181
  v46 := Tryd.zeroValue181
  t51 := Tryd.underlying219
  a51 := Tryd.isAgg219
  z51 := Tryd.sizeOf219
  v51 := Tryd.zeroValue219
  t146 := Tryd.underlying240
  a146 := Tryd.isAgg240
  z146 := Tryd.sizeOf240
  v146 := Tryd.zeroValue240
  g1 := by kernel_rfl }
open Go.RowKit Go.Lib in
/-- internal/stringslite.Index (what strings.Index calls) AT A substr OF ONE BYTE c: IT RETURNS 'Lib.indexByte s c'; the world is as it was. (LAID: no walk: one application.) -/
theorem Tryd.stringslite_Index_one (s : ByteArray) (c : UInt8) (w : World) :
    Calls Tryd.prog 218 #[.string s, .string ⟨#[c]⟩] w fun e w' => e = .returned (.int .i64 (Lib.indexByte s.data.toList c)) ∧ w' = w := Any.stringslite_Index_one Tryd.lays219 s c w
open Go.RowKit Go.Lib in
/-- internal/stringslite.Index (what strings.Index calls) AT A substr OF WHATEVER LENGTH: IT RETURNS 'Lib.index s substr'; the world is as it was. 'm': what internal/bytealg.MaxLen holds: whatever. (LAID: no walk: one application.) -/
theorem Tryd.stringslite_Index (s sub : ByteArray) (m : Int) (w : World) (hs : s.size < 4294967281) (hm : w.cell? ⟨2, 0, none⟩ = some (.int .i64 m)) :
    Calls Tryd.prog 218 #[.string s, .string sub] w fun e w' => e = .returned (.int .i64 (Lib.index s.data.toList sub.data.toList)) ∧ w' = w := Any.stringslite_Index Tryd.lays219 s sub m w hs hm
def Tryd.lays143_ren : Go.Shelf.Ren := ⟨fun | 143 => 193 | 219 => 218 | 217 => 229 | 225 => 230 | 224 => 231 | 267 => 232 | 266 => 237 | 314 => 238 | n => n, fun | 9 => 9 | 3 => 3 | 4 => 4 | 5 => 5 | 46 => 181 | 146 => 240 | 51 => 219 | n => n, fun | 1 => 2 | n => n⟩
theorem Tryd.lays143 : Go.Proofs.Lays.n143 Tryd.prog Tryd.lays143_ren := {
  mixed := by kernel_rfl
  f143 := Tryd.func193.trans (congrArg some (by kernel_rfl))
  f217 := Tryd.func229.trans (congrArg some (by kernel_rfl))
  f219 := Tryd.func218.trans (congrArg some (by kernel_rfl))
  f224 := Tryd.func231.trans (congrArg some (by kernel_rfl))
  f225 := Tryd.func230.trans (congrArg some (by kernel_rfl))
  f266 := Tryd.func237.trans (congrArg some (by kernel_rfl))
  f267 := Tryd.func232.trans (congrArg some (by kernel_rfl))
  f314 := Tryd.func238.trans (congrArg some (by kernel_rfl))
  t3 := Tryd.underlying3
  a3 := Tryd.isAgg3
  z3 := Tryd.sizeOf3
  v3 := Tryd.zeroValue3
  t4 := Tryd.underlying4
  a4 := Tryd.isAgg4
  z4 := Tryd.sizeOf4
  v4 := Tryd.zeroValue4
  t5 := Tryd.underlying5
  a5 := Tryd.isAgg5
  z5 := Tryd.sizeOf5
  v5 := Tryd.zeroValue5
  t9 := Tryd.underlying9
  a9 := Tryd.isAgg9
  z9 := Tryd.sizeOf9
  v9 := Tryd.zeroValue9
  t46 := Tryd.underlying181
  a46 := Tryd.isAgg181
  z46 := Tryd.sizeOf181
  v46 := Tryd.zeroValue181
  t51 := Tryd.underlying219
  a51 := Tryd.isAgg219
  z51 := Tryd.sizeOf219
  v51 := Tryd.zeroValue219
  t146 := Tryd.underlying240
  a146 := Tryd.isAgg240
  z146 := Tryd.sizeOf240
  v146 := Tryd.zeroValue240
  g1 := by kernel_rfl }
open Go.RowKit Go.Lib in
/-- strings.Index: "Index returns the index of the first instance of substr in s, or -1 if substr is not present in s.": AT A substr OF ONE BYTE c: IT RETURNS 'Lib.indexByte s c'; the world is as it was. (LAID: no walk: one application.) -/
theorem Tryd.strings_Index_one (s : ByteArray) (c : UInt8) (w : World) :
    Calls Tryd.prog 193 #[.string s, .string ⟨#[c]⟩] w fun e w' => e = .returned (.int .i64 (Lib.indexByte s.data.toList c)) ∧ w' = w := Any.strings_Index_one Tryd.lays143 s c w
open Go.RowKit Go.Lib in
/-- strings.Index: "Index returns the index of the first instance of substr in s, or -1 if substr is not present in s.": IT RETURNS 'Lib.index s substr'; the world is as it was. (LAID: no walk: one application.) -/
theorem Tryd.strings_Index (s sub : ByteArray) (m : Int) (w : World) (hs : s.size < 4294967281) (hm : w.cell? ⟨2, 0, none⟩ = some (.int .i64 m)) :
    Calls Tryd.prog 193 #[.string s, .string sub] w fun e w' => e = .returned (.int .i64 (Lib.index s.data.toList sub.data.toList)) ∧ w' = w := Any.strings_Index Tryd.lays143 s sub m w hs hm
def Tryd.lays138_ren : Go.Shelf.Ren := ⟨fun | 138 => 192 | 195 => 216 | 218 => 217 | 143 => 193 | 219 => 218 | 217 => 229 | 225 => 230 | 224 => 231 | 267 => 232 | 266 => 237 | 314 => 238 | n => n, fun | 9 => 9 | 3 => 3 | 4 => 4 | 5 => 5 | 0 => 0 | 46 => 181 | 146 => 240 | 51 => 219 | n => n, fun | 1 => 2 | n => n⟩
theorem Tryd.lays138 : Go.Proofs.Lays.n138 Tryd.prog Tryd.lays138_ren := {
  mixed := by kernel_rfl
  f138 := Tryd.func192.trans (congrArg some (by kernel_rfl))
  f143 := Tryd.func193.trans (congrArg some (by kernel_rfl))
  f195 := Tryd.func216.trans (congrArg some (by kernel_rfl))
  f217 := Tryd.func229.trans (congrArg some (by kernel_rfl))
  f218 := Tryd.func217.trans (congrArg some (by kernel_rfl))
  f219 := Tryd.func218.trans (congrArg some (by kernel_rfl))
  f224 := Tryd.func231.trans (congrArg some (by kernel_rfl))
  f225 := Tryd.func230.trans (congrArg some (by kernel_rfl))
  f266 := Tryd.func237.trans (congrArg some (by kernel_rfl))
  f267 := Tryd.func232.trans (congrArg some (by kernel_rfl))
  f314 := Tryd.func238.trans (congrArg some (by kernel_rfl))
  t0 := Tryd.underlying0
  a0 := Tryd.isAgg0
  z0 := Tryd.sizeOf0
  v0 := Tryd.zeroValue0
  t3 := Tryd.underlying3
  a3 := Tryd.isAgg3
  z3 := Tryd.sizeOf3
  v3 := Tryd.zeroValue3
  t4 := Tryd.underlying4
  a4 := Tryd.isAgg4
  z4 := Tryd.sizeOf4
  v4 := Tryd.zeroValue4
  t5 := Tryd.underlying5
  a5 := Tryd.isAgg5
  z5 := Tryd.sizeOf5
  v5 := Tryd.zeroValue5
  t9 := Tryd.underlying9
  a9 := Tryd.isAgg9
  z9 := Tryd.sizeOf9
  v9 := Tryd.zeroValue9
  t46 := Tryd.underlying181
  a46 := Tryd.isAgg181
  z46 := Tryd.sizeOf181
  v46 := Tryd.zeroValue181
  t51 := Tryd.underlying219
  a51 := Tryd.isAgg219
  z51 := Tryd.sizeOf219
  v51 := Tryd.zeroValue219
  t146 := Tryd.underlying240
  a146 := Tryd.isAgg240
  z146 := Tryd.sizeOf240
  v146 := Tryd.zeroValue240
  g1 := by kernel_rfl }
open Go.RowKit Go.Lib in
/-- strings.Count AT A substr OF ONE BYTE ('hp'): "Count counts the number of non-overlapping instances of substr in s.": IT RETURNS 'Lib.countByte s (that byte)'; the world is as it was. ✋ NO CONTRACT HERE YET at an empty substr (utf8.RuneCountInString) or at a longer one (a loop over strings.Index). (LAID: no walk: one application.) -/
theorem Tryd.strings_Count_one (s : ByteArray) (c : UInt8) (w : World) :
    Calls Tryd.prog 192 #[.string s, .string ⟨#[c]⟩] w fun e w' => e = .returned (.int .i64 (Lib.countByte s.data.toList c)) ∧ w' = w := Any.strings_Count_one Tryd.lays138 s c w
open Go.RowKit Go.Lib in
/-- strings.Count AT A substr OF TWO BYTES OR MORE: "Count counts the number of non-overlapping instances of substr in s.": IT RETURNS 'Lib.count s substr'; the world is as it was. (LAID: no walk: one application.) -/
theorem Tryd.strings_Count (s sub : ByteArray) (m : Int) (w : World) (hs : s.size < 4294967281) (hm : w.cell? ⟨2, 0, none⟩ = some (.int .i64 m)) (h2 : 2 ≤ sub.size) :
    Calls Tryd.prog 192 #[.string s, .string sub] w fun e w' => e = .returned (.int .i64 (Lib.countB s sub)) ∧ w' = w := Any.strings_Count Tryd.lays138 s sub m w hs hm h2
def Tryd.laysM219_ren : Go.Shelf.Ren := ⟨fun | 219 => 218 | 217 => 229 | 225 => 230 | 224 => 231 | 267 => 232 | 266 => 237 | 314 => 238 | n => n, fun | 9 => 9 | 3 => 3 | 4 => 4 | 5 => 5 | 46 => 181 | 146 => 240 | 51 => 219 | n => n, fun | 1 => 2 | n => n⟩
theorem Tryd.laysM219 : Go.Proofs.LaysM.n219 Tryd.prog Tryd.laysM219_ren := {
  mixed := by kernel_rfl
  f217 := Tryd.func229.trans (congrArg some (by kernel_rfl))
  f219 := Tryd.func218.trans (congrArg some (by kernel_rfl))
  f224 := Tryd.func231.trans (congrArg some (by kernel_rfl))
  f225 := Tryd.func230.trans (congrArg some (by kernel_rfl))
  f266 := Tryd.func237.trans (congrArg some (by kernel_rfl))
  f267 := Tryd.func232.trans (congrArg some (by kernel_rfl))
  f314 := Tryd.func238.trans (congrArg some (by kernel_rfl))
  t3 := Tryd.underlying3
  a3 := Tryd.isAgg3
  z3 := Tryd.sizeOf3
  v3 := Tryd.zeroValue3
  t4 := Tryd.underlying4
  a4 := Tryd.isAgg4
  z4 := Tryd.sizeOf4
  v4 := Tryd.zeroValue4
  t5 := Tryd.underlying5
  a5 := Tryd.isAgg5
  z5 := Tryd.sizeOf5
  v5 := Tryd.zeroValue5
  t9 := Tryd.underlying9
  a9 := Tryd.isAgg9
  z9 := Tryd.sizeOf9
  v9 := Tryd.zeroValue9
  t46 := Tryd.underlying181
  a46 := Tryd.isAgg181
  z46 := Tryd.sizeOf181
  v46 := Tryd.zeroValue181
  t51 := Tryd.underlying219
  a51 := Tryd.isAgg219
  z51 := Tryd.sizeOf219
  v51 := Tryd.zeroValue219
  t146 := Tryd.underlying240
  a146 := Tryd.isAgg240
  z146 := Tryd.sizeOf240
  v146 := Tryd.zeroValue240
  g1 := by kernel_rfl
  i3 := by kernel_rfl
  i4 := by kernel_rfl
  i5 := by kernel_rfl
  i9 := by kernel_rfl
  i46 := by kernel_rfl
  i51 := by kernel_rfl
  i146 := by kernel_rfl
  m1 := by kernel_rfl
  s1_3 := fun w h => Go.Proofs.cell_of_shapedOpen_int (zero := #[.int .i64 0]) (t := 3) h (of_decide_eq_true (by kernel_rfl)) (by kernel_rfl) rfl (by kernel_rfl) (by kernel_rfl) Tryd.underlying3 }
open Go.RowKit Go.Lib in
theorem Tryd.stringslite_Index_shaped (s sub : ByteArray) (w : World) (h : w.ShapedOpen Tryd.prog) (hs : s.size < 4294967281) :
    Calls Tryd.prog 218 #[.string s, .string sub] w fun e w' => e = .returned (.int .i64 (Lib.index s.data.toList sub.data.toList)) ∧ w' = w := Any.stringslite_Index_shaped Tryd.laysM219 s sub w h hs
def Tryd.laysM143_ren : Go.Shelf.Ren := ⟨fun | 143 => 193 | 219 => 218 | 217 => 229 | 225 => 230 | 224 => 231 | 267 => 232 | 266 => 237 | 314 => 238 | n => n, fun | 9 => 9 | 3 => 3 | 4 => 4 | 5 => 5 | 46 => 181 | 146 => 240 | 51 => 219 | n => n, fun | 1 => 2 | n => n⟩
theorem Tryd.laysM143 : Go.Proofs.LaysM.n143 Tryd.prog Tryd.laysM143_ren := {
  mixed := by kernel_rfl
  f143 := Tryd.func193.trans (congrArg some (by kernel_rfl))
  f217 := Tryd.func229.trans (congrArg some (by kernel_rfl))
  f219 := Tryd.func218.trans (congrArg some (by kernel_rfl))
  f224 := Tryd.func231.trans (congrArg some (by kernel_rfl))
  f225 := Tryd.func230.trans (congrArg some (by kernel_rfl))
  f266 := Tryd.func237.trans (congrArg some (by kernel_rfl))
  f267 := Tryd.func232.trans (congrArg some (by kernel_rfl))
  f314 := Tryd.func238.trans (congrArg some (by kernel_rfl))
  t3 := Tryd.underlying3
  a3 := Tryd.isAgg3
  z3 := Tryd.sizeOf3
  v3 := Tryd.zeroValue3
  t4 := Tryd.underlying4
  a4 := Tryd.isAgg4
  z4 := Tryd.sizeOf4
  v4 := Tryd.zeroValue4
  t5 := Tryd.underlying5
  a5 := Tryd.isAgg5
  z5 := Tryd.sizeOf5
  v5 := Tryd.zeroValue5
  t9 := Tryd.underlying9
  a9 := Tryd.isAgg9
  z9 := Tryd.sizeOf9
  v9 := Tryd.zeroValue9
  t46 := Tryd.underlying181
  a46 := Tryd.isAgg181
  z46 := Tryd.sizeOf181
  v46 := Tryd.zeroValue181
  t51 := Tryd.underlying219
  a51 := Tryd.isAgg219
  z51 := Tryd.sizeOf219
  v51 := Tryd.zeroValue219
  t146 := Tryd.underlying240
  a146 := Tryd.isAgg240
  z146 := Tryd.sizeOf240
  v146 := Tryd.zeroValue240
  g1 := by kernel_rfl
  i3 := by kernel_rfl
  i4 := by kernel_rfl
  i5 := by kernel_rfl
  i9 := by kernel_rfl
  i46 := by kernel_rfl
  i51 := by kernel_rfl
  i146 := by kernel_rfl
  m1 := by kernel_rfl
  s1_3 := fun w h => Go.Proofs.cell_of_shapedOpen_int (zero := #[.int .i64 0]) (t := 3) h (of_decide_eq_true (by kernel_rfl)) (by kernel_rfl) rfl (by kernel_rfl) (by kernel_rfl) Tryd.underlying3 }
open Go.RowKit Go.Lib in
theorem Tryd.strings_Index_shaped (s sub : ByteArray) (w : World) (h : w.ShapedOpen Tryd.prog) (hs : s.size < 4294967281) :
    Calls Tryd.prog 193 #[.string s, .string sub] w fun e w' => e = .returned (.int .i64 (Lib.index s.data.toList sub.data.toList)) ∧ w' = w := Any.strings_Index_shaped Tryd.laysM143 s sub w h hs
def Tryd.laysM138_ren : Go.Shelf.Ren := ⟨fun | 138 => 192 | 195 => 216 | 218 => 217 | 143 => 193 | 219 => 218 | 217 => 229 | 225 => 230 | 224 => 231 | 267 => 232 | 266 => 237 | 314 => 238 | n => n, fun | 9 => 9 | 3 => 3 | 4 => 4 | 5 => 5 | 0 => 0 | 46 => 181 | 146 => 240 | 51 => 219 | n => n, fun | 1 => 2 | n => n⟩
theorem Tryd.laysM138 : Go.Proofs.LaysM.n138 Tryd.prog Tryd.laysM138_ren := {
  mixed := by kernel_rfl
  f138 := Tryd.func192.trans (congrArg some (by kernel_rfl))
  f143 := Tryd.func193.trans (congrArg some (by kernel_rfl))
  f195 := Tryd.func216.trans (congrArg some (by kernel_rfl))
  f217 := Tryd.func229.trans (congrArg some (by kernel_rfl))
  f218 := Tryd.func217.trans (congrArg some (by kernel_rfl))
  f219 := Tryd.func218.trans (congrArg some (by kernel_rfl))
  f224 := Tryd.func231.trans (congrArg some (by kernel_rfl))
  f225 := Tryd.func230.trans (congrArg some (by kernel_rfl))
  f266 := Tryd.func237.trans (congrArg some (by kernel_rfl))
  f267 := Tryd.func232.trans (congrArg some (by kernel_rfl))
  f314 := Tryd.func238.trans (congrArg some (by kernel_rfl))
  t0 := Tryd.underlying0
  a0 := Tryd.isAgg0
  z0 := Tryd.sizeOf0
  v0 := Tryd.zeroValue0
  t3 := Tryd.underlying3
  a3 := Tryd.isAgg3
  z3 := Tryd.sizeOf3
  v3 := Tryd.zeroValue3
  t4 := Tryd.underlying4
  a4 := Tryd.isAgg4
  z4 := Tryd.sizeOf4
  v4 := Tryd.zeroValue4
  t5 := Tryd.underlying5
  a5 := Tryd.isAgg5
  z5 := Tryd.sizeOf5
  v5 := Tryd.zeroValue5
  t9 := Tryd.underlying9
  a9 := Tryd.isAgg9
  z9 := Tryd.sizeOf9
  v9 := Tryd.zeroValue9
  t46 := Tryd.underlying181
  a46 := Tryd.isAgg181
  z46 := Tryd.sizeOf181
  v46 := Tryd.zeroValue181
  t51 := Tryd.underlying219
  a51 := Tryd.isAgg219
  z51 := Tryd.sizeOf219
  v51 := Tryd.zeroValue219
  t146 := Tryd.underlying240
  a146 := Tryd.isAgg240
  z146 := Tryd.sizeOf240
  v146 := Tryd.zeroValue240
  g1 := by kernel_rfl
  i0 := by kernel_rfl
  i3 := by kernel_rfl
  i4 := by kernel_rfl
  i5 := by kernel_rfl
  i9 := by kernel_rfl
  i46 := by kernel_rfl
  i51 := by kernel_rfl
  i146 := by kernel_rfl
  m1 := by kernel_rfl
  s1_3 := fun w h => Go.Proofs.cell_of_shapedOpen_int (zero := #[.int .i64 0]) (t := 3) h (of_decide_eq_true (by kernel_rfl)) (by kernel_rfl) rfl (by kernel_rfl) (by kernel_rfl) Tryd.underlying3 }
open Go.RowKit Go.Lib in
theorem Tryd.strings_Count_shaped (s sub : ByteArray) (w : World) (h : w.ShapedOpen Tryd.prog) (hs : s.size < 4294967281) (h2 : 2 ≤ sub.size) :
    Calls Tryd.prog 192 #[.string s, .string sub] w fun e w' => e = .returned (.int .i64 (Lib.countB s sub)) ∧ w' = w := Any.strings_Count_shaped Tryd.laysM138 s sub w h hs h2
def Tryd.lays190_ren : Go.Shelf.Ren := ⟨fun | 190 => 150 | 125 => 182 | 258 => 181 | 128 => 212 | 129 => 213 | 302 => 203 | 303 => 204 | 304 => 205 | 305 => 206 | 306 => 207 | 307 => 208 | 308 => 209 | 309 => 210 | 310 => 211 | 333 => 223 | 329 => 224 | 330 => 225 | 334 => 226 | 335 => 227 | 336 => 228 | 344 => 236 | n => n, fun | 31 => 22 | 9 => 9 | 3 => 3 | 46 => 181 | 0 => 0 | 51 => 219 | 53 => 150 | 4 => 4 | 183 => 213 | 182 => 212 | 131 => 126 | 5 => 5 | 218 => 229 | 222 => 232 | 228 => 238 | 229 => 64 | n => n, fun | n => n⟩
theorem Tryd.lays190 : Go.Proofs.Lays.n190 Tryd.prog Tryd.lays190_ren := {
  mixed := by kernel_rfl
  f125 := Tryd.func182.trans (congrArg some (by kernel_rfl))
  f128 := Tryd.func212.trans (congrArg some (by kernel_rfl))
  f129 := Tryd.func213.trans (congrArg some (by kernel_rfl))
  f190 := Tryd.func150.trans (congrArg some (by kernel_rfl))
  f258 := Tryd.func181.trans (congrArg some (by kernel_rfl))
  f302 := Tryd.func203.trans (congrArg some (by kernel_rfl))
  f303 := Tryd.func204.trans (congrArg some (by kernel_rfl))
  f304 := Tryd.func205.trans (congrArg some (by kernel_rfl))
  f305 := Tryd.func206.trans (congrArg some (by kernel_rfl))
  f306 := Tryd.func207.trans (congrArg some (by kernel_rfl))
  f307 := Tryd.func208.trans (congrArg some (by kernel_rfl))
  f308 := Tryd.func209.trans (congrArg some (by kernel_rfl))
  f309 := Tryd.func210.trans (congrArg some (by kernel_rfl))
  f310 := Tryd.func211.trans (congrArg some (by kernel_rfl))
  f329 := Tryd.func224.trans (congrArg some (by kernel_rfl))
  f330 := Tryd.func225.trans (congrArg some (by kernel_rfl))
  f333 := Tryd.func223.trans (congrArg some (by kernel_rfl))
  f334 := Tryd.func226.trans (congrArg some (by kernel_rfl))
  f335 := Tryd.func227.trans (congrArg some (by kernel_rfl))
  f336 := Tryd.func228.trans (congrArg some (by kernel_rfl))
  f344 := Tryd.func236.trans (congrArg some (by kernel_rfl))
  t0 := Tryd.underlying0
  a0 := Tryd.isAgg0
  z0 := Tryd.sizeOf0
  v0 := Tryd.zeroValue0
  t3 := Tryd.underlying3
  a3 := Tryd.isAgg3
  z3 := Tryd.sizeOf3
  v3 := Tryd.zeroValue3
  t4 := Tryd.underlying4
  a4 := Tryd.isAgg4
  z4 := Tryd.sizeOf4
  v4 := Tryd.zeroValue4
  t5 := Tryd.underlying5
  a5 := Tryd.isAgg5
  z5 := Tryd.sizeOf5
  v5 := Tryd.zeroValue5
  t9 := Tryd.underlying9
  a9 := Tryd.isAgg9
  z9 := Tryd.sizeOf9
  v9 := Tryd.zeroValue9
  t31 := Tryd.underlying22
  a31 := Tryd.isAgg22
  z31 := Tryd.sizeOf22
  v31 := Tryd.zeroValue22
  t46 := Tryd.underlying181
  a46 := Tryd.isAgg181
  z46 := Tryd.sizeOf181
  v46 := Tryd.zeroValue181
  t51 := Tryd.underlying219
  a51 := Tryd.isAgg219
  z51 := Tryd.sizeOf219
  v51 := Tryd.zeroValue219
  t53 := Tryd.underlying150
  a53 := Tryd.isAgg150
  z53 := Tryd.sizeOf150
  v53 := Tryd.zeroValue150
  t131 := Tryd.underlying126
  a131 := Tryd.isAgg126
  z131 := Tryd.sizeOf126
  v131 := Tryd.zeroValue126
  t182 := Tryd.underlying212
  a182 := Tryd.isAgg212
  z182 := Tryd.sizeOf212
  v182 := Tryd.zeroValue212
  t183 := Tryd.underlying213
  a183 := Tryd.isAgg213
  z183 := Tryd.sizeOf213
  v183 := Tryd.zeroValue213
  t218 := Tryd.underlying229
  a218 := Tryd.isAgg229
  z218 := Tryd.sizeOf229
  v218 := Tryd.zeroValue229
  t222 := Tryd.underlying232
  a222 := Tryd.isAgg232
  z222 := Tryd.sizeOf232
  v222 := Tryd.zeroValue232
  t228 := Tryd.underlying238
  a228 := Tryd.isAgg238
  z228 := Tryd.sizeOf238
  v228 := Tryd.zeroValue238
  t229 := Tryd.underlying64
  a229 := Tryd.isAgg64
  z229 := Tryd.sizeOf64
  v229 := Tryd.zeroValue64 }
open Go.Sort Go.RowKit in
theorem Tryd.slices_Sort_string (blk off cap : Nat) (ss : List (List UInt8)) (w : World) (hH : Holds encStr w blk off ss.toArray) (hblk : blk < w.heap.size) (hsz : ss.length < 4611686018427387904) :
    Calls Tryd.prog 150 #[.slice (some ⟨blk, off, none⟩) ss.length cap] w fun e w' =>
      e = .returned (.tuple #[]) ∧ ∃ n os, w' = grow (putRow encStr (Sort.ahead w n) blk off (ss.mergeSort fun x y => decide (x ≤ y)).toArray) os := Any.slices_Sort_string Tryd.lays190 blk off cap ss w hH hblk hsz
def Tryd.lays315_ren : Go.Shelf.Ren := ⟨fun | 315 => 194 | n => n, fun | 9 => 9 | 40 => 183 | 4 => 4 | 3 => 3 | 0 => 0 | 21 => 21 | n => n, fun | n => n⟩
theorem Tryd.lays315 : Go.Proofs.Lays.n315 Tryd.prog Tryd.lays315_ren := {
  mixed := by kernel_rfl
  f315 := Tryd.func194.trans (congrArg some (by kernel_rfl))
  t0 := Tryd.underlying0
  a0 := Tryd.isAgg0
  z0 := Tryd.sizeOf0
  v0 := Tryd.zeroValue0
  t3 := Tryd.underlying3
  a3 := Tryd.isAgg3
  z3 := Tryd.sizeOf3
  v3 := Tryd.zeroValue3
  t4 := Tryd.underlying4
  a4 := Tryd.isAgg4
  z4 := Tryd.sizeOf4
  v4 := Tryd.zeroValue4
  t9 := Tryd.underlying9
  a9 := Tryd.isAgg9
  z9 := Tryd.sizeOf9
  v9 := Tryd.zeroValue9
  t21 := Tryd.underlying21
  a21 := Tryd.isAgg21
  z21 := Tryd.sizeOf21
  v21 := Tryd.zeroValue21
  t40 := Tryd.underlying183
  a40 := Tryd.isAgg183
  z40 := Tryd.sizeOf183
  v40 := Tryd.zeroValue183 }
open Go.RowKit Go.Lib in
theorem Tryd.strings_indexFunc (g : Nat) (lb : Array Value) (eg : ∀ args w, (callFunc g args).run Tryd.prog w = .ok (.enter g args) w) (p : Nat → Bool) (truth : Bool) (s : ByteArray) (w : World) (hp : PredAt Tryd.prog g lb encR p w) :
    Calls Tryd.prog 194 #[.string s, .func (.func g) #[] lb, .bool truth] w fun e w' => e = .returned (.int .i64 (Lib.idxFunc p truth s)) ∧ Below w.heap.size w w' := Any.strings_indexFunc Tryd.lays315 g lb eg p truth s w hp
def Tryd.laysGw15_ren : Go.Shelf.Ren := ⟨fun | 15 => 171 | 20 => 194 | n => n, fun | 9 => 9 | 23 => 183 | 3 => 3 | 4 => 4 | 0 => 0 | 21 => 21 | n => n, fun | n => n⟩
theorem Tryd.laysGw15 : Go.Proofs.LaysGw.n15 Tryd.prog Tryd.laysGw15_ren := {
  mixed := by kernel_rfl
  f15 := Tryd.func171.trans (congrArg some (by kernel_rfl))
  f20 := Tryd.func194.trans (congrArg some (by kernel_rfl))
  t0 := Tryd.underlying0
  a0 := Tryd.isAgg0
  z0 := Tryd.sizeOf0
  v0 := Tryd.zeroValue0
  i0 := by kernel_rfl
  t3 := Tryd.underlying3
  a3 := Tryd.isAgg3
  z3 := Tryd.sizeOf3
  v3 := Tryd.zeroValue3
  i3 := by kernel_rfl
  t4 := Tryd.underlying4
  a4 := Tryd.isAgg4
  z4 := Tryd.sizeOf4
  v4 := Tryd.zeroValue4
  i4 := by kernel_rfl
  t9 := Tryd.underlying9
  a9 := Tryd.isAgg9
  z9 := Tryd.sizeOf9
  v9 := Tryd.zeroValue9
  i9 := by kernel_rfl
  t21 := Tryd.underlying21
  a21 := Tryd.isAgg21
  z21 := Tryd.sizeOf21
  v21 := Tryd.zeroValue21
  i21 := by kernel_rfl
  t23 := Tryd.underlying183
  a23 := Tryd.isAgg183
  z23 := Tryd.sizeOf183
  v23 := Tryd.zeroValue183
  i23 := by kernel_rfl }
open Go.RowKit Go.Lib in
theorem Tryd.strings_IndexFunc (g : Nat) (lb : Array Value) (eg : ∀ args w, (callFunc g args).run Tryd.prog w = .ok (.enter g args) w) (p : Nat → Bool) (s : ByteArray) (w : World) (hp : PredAt Tryd.prog g lb encR p w) :
    Calls Tryd.prog 171 #[.string s, .func (.func g) #[] lb] w fun e w' => e = .returned (.int .i64 (Lib.idxFunc p true s)) ∧ Below w.heap.size w w' := Any.strings_IndexFunc Tryd.laysGw15 g lb eg p s w hp
open Go.RowKit Go.Lib in
theorem Tryd.strings_indexFunc_runes (g : Nat) (lb : Array Value) (eg : ∀ args w, (callFunc g args).run Tryd.prog w = .ok (.enter g args) w) (p : Nat → Bool) (truth : Bool) (s : ByteArray) (w : World) (hp : PredAtRunes Tryd.prog g lb p w) :
    Calls Tryd.prog 194 #[.string s, .func (.func g) #[] lb, .bool truth] w fun e w' => e = .returned (.int .i64 (Lib.idxFunc p truth s)) ∧ Below w.heap.size w w' := Any.strings_indexFunc_runes Tryd.lays315 g lb eg p truth s w hp
open Go.RowKit Go.Lib in
theorem Tryd.strings_IndexFunc_runes (g : Nat) (lb : Array Value) (eg : ∀ args w, (callFunc g args).run Tryd.prog w = .ok (.enter g args) w) (p : Nat → Bool) (s : ByteArray) (w : World) (hp : PredAtRunes Tryd.prog g lb p w) :
    Calls Tryd.prog 171 #[.string s, .func (.func g) #[] lb] w fun e w' => e = .returned (.int .i64 (Lib.idxFunc p true s)) ∧ Below w.heap.size w w' := Any.strings_IndexFunc_runes Tryd.laysGw15 g lb eg p s w hp
def Tryd.lays206_ren : Go.Shelf.Ren := ⟨fun | 206 => 214 | n => n, fun | 9 => 9 | 4 => 4 | 3 => 3 | n => n, fun | n => n⟩
theorem Tryd.lays206 : Go.Proofs.Lays.n206 Tryd.prog Tryd.lays206_ren := {
  mixed := by kernel_rfl
  f206 := Tryd.func214.trans (congrArg some (by kernel_rfl))
  t3 := Tryd.underlying3
  a3 := Tryd.isAgg3
  z3 := Tryd.sizeOf3
  v3 := Tryd.zeroValue3
  t4 := Tryd.underlying4
  a4 := Tryd.isAgg4
  z4 := Tryd.sizeOf4
  v4 := Tryd.zeroValue4
  t9 := Tryd.underlying9
  a9 := Tryd.isAgg9
  z9 := Tryd.sizeOf9
  v9 := Tryd.zeroValue9 }
open Go.RowKit Go.Lib in
/-- internal/stringslite.HasPrefix (what strings.HasPrefix calls). (LAID: no walk: one application.) -/
theorem Tryd.stringslite_HasPrefix (s p : ByteArray) (w : World) :
    Calls Tryd.prog 214 #[.string s, .string p] w fun e w' => e = .returned (.bool (Lib.hasPrefix s.data.toList p.data.toList)) ∧ w' = w := Any.stringslite_HasPrefix Tryd.lays206 s p w
def Tryd.lays99_ren : Go.Shelf.Ren := ⟨fun | 99 => 184 | 206 => 214 | n => n, fun | 9 => 9 | 4 => 4 | 3 => 3 | n => n, fun | n => n⟩
theorem Tryd.lays99 : Go.Proofs.Lays.n99 Tryd.prog Tryd.lays99_ren := {
  mixed := by kernel_rfl
  f99 := Tryd.func184.trans (congrArg some (by kernel_rfl))
  f206 := Tryd.func214.trans (congrArg some (by kernel_rfl))
  t3 := Tryd.underlying3
  a3 := Tryd.isAgg3
  z3 := Tryd.sizeOf3
  v3 := Tryd.zeroValue3
  t4 := Tryd.underlying4
  a4 := Tryd.isAgg4
  z4 := Tryd.sizeOf4
  v4 := Tryd.zeroValue4
  t9 := Tryd.underlying9
  a9 := Tryd.isAgg9
  z9 := Tryd.sizeOf9
  v9 := Tryd.zeroValue9 }
open Go.RowKit Go.Lib in
/-- strings.HasPrefix: "HasPrefix reports whether the string s begins with prefix.": IT RETURNS 'Lib.hasPrefix s prefix'; the world is as it was. (LAID: no walk: one application.) -/
theorem Tryd.strings_HasPrefix (s p : ByteArray) (w : World) :
    Calls Tryd.prog 184 #[.string s, .string p] w fun e w' => e = .returned (.bool (Lib.hasPrefix s.data.toList p.data.toList)) ∧ w' = w := Any.strings_HasPrefix Tryd.lays99 s p w
open Go.RowKit Go.Lib in
/-- strings.Count at whatever sep that is not empty: the two roads under one statement. (LAID: no walk: one application.) -/
theorem Tryd.strings_Count_any (s sep : ByteArray) (m : Int) (w : World) (hs : s.size < 4294967281) (hm : w.cell? ⟨2, 0, none⟩ = some (.int .i64 m)) (h1 : 1 ≤ sep.size) :
    Calls Tryd.prog 192 #[.string s, .string sep] w fun e w' => e = .returned (.int .i64 (Lib.countB s sep)) ∧ w' = w := Any.strings_Count_any Tryd.lays138 s sep m w hs hm h1
def Tryd.lays221_ren : Go.Shelf.Ren := ⟨fun | 221 => 169 | 268 => 191 | 138 => 192 | 143 => 193 | 195 => 216 | 197 => 177 | 218 => 217 | 219 => 218 | 260 => 198 | 217 => 229 | 225 => 230 | 224 => 231 | 267 => 232 | 266 => 237 | 314 => 238 | n => n, fun | 9 => 9 | 3 => 3 | 31 => 22 | 4 => 4 | 0 => 0 | 105 => 188 | 21 => 21 | 5 => 5 | 46 => 181 | 119 => 222 | 139 => 225 | 138 => 224 | 146 => 240 | 51 => 219 | n => n, fun | 1 => 2 | 3 => 0 | 4 => 1 | n => n⟩
theorem Tryd.lays221 : Go.Proofs.Lays.n221 Tryd.prog Tryd.lays221_ren := {
  mixed := by kernel_rfl
  f138 := Tryd.func192.trans (congrArg some (by kernel_rfl))
  f143 := Tryd.func193.trans (congrArg some (by kernel_rfl))
  f195 := Tryd.func216.trans (congrArg some (by kernel_rfl))
  f197 := Tryd.func177.trans (congrArg some (by kernel_rfl))
  f217 := Tryd.func229.trans (congrArg some (by kernel_rfl))
  f218 := Tryd.func217.trans (congrArg some (by kernel_rfl))
  f219 := Tryd.func218.trans (congrArg some (by kernel_rfl))
  f221 := Tryd.func169.trans (congrArg some (by kernel_rfl))
  f224 := Tryd.func231.trans (congrArg some (by kernel_rfl))
  f225 := Tryd.func230.trans (congrArg some (by kernel_rfl))
  f260 := Tryd.func198.trans (congrArg some (by kernel_rfl))
  f266 := Tryd.func237.trans (congrArg some (by kernel_rfl))
  f267 := Tryd.func232.trans (congrArg some (by kernel_rfl))
  f268 := Tryd.func191.trans (congrArg some (by kernel_rfl))
  f314 := Tryd.func238.trans (congrArg some (by kernel_rfl))
  t0 := Tryd.underlying0
  a0 := Tryd.isAgg0
  z0 := Tryd.sizeOf0
  v0 := Tryd.zeroValue0
  t3 := Tryd.underlying3
  a3 := Tryd.isAgg3
  z3 := Tryd.sizeOf3
  v3 := Tryd.zeroValue3
  t4 := Tryd.underlying4
  a4 := Tryd.isAgg4
  z4 := Tryd.sizeOf4
  v4 := Tryd.zeroValue4
  t5 := Tryd.underlying5
  a5 := Tryd.isAgg5
  z5 := Tryd.sizeOf5
  v5 := Tryd.zeroValue5
  t9 := Tryd.underlying9
  a9 := Tryd.isAgg9
  z9 := Tryd.sizeOf9
  v9 := Tryd.zeroValue9
  t21 := Tryd.underlying21
  a21 := Tryd.isAgg21
  z21 := Tryd.sizeOf21
  v21 := Tryd.zeroValue21
  t31 := Tryd.underlying22
  a31 := Tryd.isAgg22
  z31 := Tryd.sizeOf22
  v31 := Tryd.zeroValue22
  t46 := Tryd.underlying181
  a46 := Tryd.isAgg181
  z46 := Tryd.sizeOf181
  v46 := Tryd.zeroValue181
  t51 := Tryd.underlying219
  a51 := Tryd.isAgg219
  z51 := Tryd.sizeOf219
  v51 := Tryd.zeroValue219
  t105 := Tryd.underlying188
  a105 := Tryd.isAgg188
  z105 := Tryd.sizeOf188
  v105 := Tryd.zeroValue188
  t119 := Tryd.underlying222
  a119 := Tryd.isAgg222
  z119 := Tryd.sizeOf222
  t138 := Tryd.underlying224
  a138 := Tryd.isAgg224
  z138 := Tryd.sizeOf224
  v138 := Tryd.zeroValue224
  t139 := Tryd.underlying225
  a139 := Tryd.isAgg225
  z139 := Tryd.sizeOf225
  v139 := Tryd.zeroValue225
  t146 := Tryd.underlying240
  a146 := Tryd.isAgg240
  z146 := Tryd.sizeOf240
  v146 := Tryd.zeroValue240
  g1 := by kernel_rfl
  g3 := by kernel_rfl
  g4 := by kernel_rfl }
open Go.RowKit Go.Lib in
theorem Tryd.strings_genSplit (s sep : ByteArray) (sv : Nat) (n : Int) (N : Nat) (m : Int) (w : World) (hs : s.size < 4294967281) (hm : w.cell? ⟨2, 0, none⟩ = some (.int .i64 m)) (h1 : 1 ≤ sep.size) (hsv : sv ≤ sep.size) (hn0 : n ≠ 0) (hn63 : n ≤ 9223372036854775807) (hN : (N : Int) = min (if n < 0 then (Lib.countB s sep : Int) + 1 else n) ((s.size : Int) + 1)) :
    Calls Tryd.prog 169 #[.string s, .string sep, .int .i64 sv, .int .i64 n] w fun e w' =>
      e = .returned (.slice (some ⟨w.heap.size, 0, none⟩) (Lib.splitB sep sv (N - 1) s).length N) ∧ w' = w.alloc (.cells (Lib.cellsOf (Lib.splitB sep sv (N - 1) s) N) 9) := Any.strings_genSplit Tryd.lays221 (by kernel_rfl) s sep sv n N m w hs hm h1 hsv hn0 hn63 hN
def Tryd.lays146_ren : Go.Shelf.Ren := ⟨fun | 146 => 129 | 221 => 169 | 268 => 191 | 138 => 192 | 143 => 193 | 195 => 216 | 197 => 177 | 218 => 217 | 219 => 218 | 260 => 198 | 217 => 229 | 225 => 230 | 224 => 231 | 267 => 232 | 266 => 237 | 314 => 238 | n => n, fun | 9 => 9 | 31 => 22 | 3 => 3 | 4 => 4 | 0 => 0 | 105 => 188 | 21 => 21 | 5 => 5 | 46 => 181 | 119 => 222 | 139 => 225 | 138 => 224 | 146 => 240 | 51 => 219 | n => n, fun | 1 => 2 | 3 => 0 | 4 => 1 | n => n⟩
theorem Tryd.lays146 : Go.Proofs.Lays.n146 Tryd.prog Tryd.lays146_ren := {
  mixed := by kernel_rfl
  f138 := Tryd.func192.trans (congrArg some (by kernel_rfl))
  f143 := Tryd.func193.trans (congrArg some (by kernel_rfl))
  f146 := Tryd.func129.trans (congrArg some (by kernel_rfl))
  f195 := Tryd.func216.trans (congrArg some (by kernel_rfl))
  f197 := Tryd.func177.trans (congrArg some (by kernel_rfl))
  f217 := Tryd.func229.trans (congrArg some (by kernel_rfl))
  f218 := Tryd.func217.trans (congrArg some (by kernel_rfl))
  f219 := Tryd.func218.trans (congrArg some (by kernel_rfl))
  f221 := Tryd.func169.trans (congrArg some (by kernel_rfl))
  f224 := Tryd.func231.trans (congrArg some (by kernel_rfl))
  f225 := Tryd.func230.trans (congrArg some (by kernel_rfl))
  f260 := Tryd.func198.trans (congrArg some (by kernel_rfl))
  f266 := Tryd.func237.trans (congrArg some (by kernel_rfl))
  f267 := Tryd.func232.trans (congrArg some (by kernel_rfl))
  f268 := Tryd.func191.trans (congrArg some (by kernel_rfl))
  f314 := Tryd.func238.trans (congrArg some (by kernel_rfl))
  t0 := Tryd.underlying0
  a0 := Tryd.isAgg0
  z0 := Tryd.sizeOf0
  v0 := Tryd.zeroValue0
  t3 := Tryd.underlying3
  a3 := Tryd.isAgg3
  z3 := Tryd.sizeOf3
  v3 := Tryd.zeroValue3
  t4 := Tryd.underlying4
  a4 := Tryd.isAgg4
  z4 := Tryd.sizeOf4
  v4 := Tryd.zeroValue4
  t5 := Tryd.underlying5
  a5 := Tryd.isAgg5
  z5 := Tryd.sizeOf5
  v5 := Tryd.zeroValue5
  t9 := Tryd.underlying9
  a9 := Tryd.isAgg9
  z9 := Tryd.sizeOf9
  v9 := Tryd.zeroValue9
  t21 := Tryd.underlying21
  a21 := Tryd.isAgg21
  z21 := Tryd.sizeOf21
  v21 := Tryd.zeroValue21
  t31 := Tryd.underlying22
  a31 := Tryd.isAgg22
  z31 := Tryd.sizeOf22
  v31 := Tryd.zeroValue22
  t46 := Tryd.underlying181
  a46 := Tryd.isAgg181
  z46 := Tryd.sizeOf181
  v46 := Tryd.zeroValue181
  t51 := Tryd.underlying219
  a51 := Tryd.isAgg219
  z51 := Tryd.sizeOf219
  v51 := Tryd.zeroValue219
  t105 := Tryd.underlying188
  a105 := Tryd.isAgg188
  z105 := Tryd.sizeOf188
  v105 := Tryd.zeroValue188
  t119 := Tryd.underlying222
  a119 := Tryd.isAgg222
  z119 := Tryd.sizeOf222
  t138 := Tryd.underlying224
  a138 := Tryd.isAgg224
  z138 := Tryd.sizeOf224
  v138 := Tryd.zeroValue224
  t139 := Tryd.underlying225
  a139 := Tryd.isAgg225
  z139 := Tryd.sizeOf225
  v139 := Tryd.zeroValue225
  t146 := Tryd.underlying240
  a146 := Tryd.isAgg240
  z146 := Tryd.sizeOf240
  v146 := Tryd.zeroValue240
  g1 := by kernel_rfl
  g3 := by kernel_rfl
  g4 := by kernel_rfl }
open Go.RowKit Go.Lib in
/-- strings.Split. (LAID: no walk: one application.) -/
theorem Tryd.strings_Split (s sep : ByteArray) (m : Int) (w : World) (hs : s.size < 4294967281) (hm : w.cell? ⟨2, 0, none⟩ = some (.int .i64 m)) (h1 : 1 ≤ sep.size) :
    Calls Tryd.prog 129 #[.string s, .string sep] w fun e w' =>
      e = .returned (.slice (some ⟨w.heap.size, 0, none⟩) (Lib.countB s sep + 1) (Lib.countB s sep + 1)) ∧ w' = w.alloc (.cells ((Lib.splitB sep 0 (Lib.countB s sep) s).map Value.string).toArray 9) := Any.strings_Split Tryd.lays146 (by kernel_rfl) s sep m w hs hm h1
def Tryd.laysM146_ren : Go.Shelf.Ren := ⟨fun | 146 => 129 | 221 => 169 | 268 => 191 | 138 => 192 | 143 => 193 | 195 => 216 | 197 => 177 | 218 => 217 | 219 => 218 | 260 => 198 | 217 => 229 | 225 => 230 | 224 => 231 | 267 => 232 | 266 => 237 | 314 => 238 | n => n, fun | 9 => 9 | 31 => 22 | 3 => 3 | 4 => 4 | 0 => 0 | 105 => 188 | 21 => 21 | 5 => 5 | 46 => 181 | 119 => 222 | 139 => 225 | 138 => 224 | 146 => 240 | 51 => 219 | n => n, fun | 1 => 2 | 3 => 0 | 4 => 1 | n => n⟩
theorem Tryd.laysM146 : Go.Proofs.LaysM.n146 Tryd.prog Tryd.laysM146_ren := {
  mixed := by kernel_rfl
  f138 := Tryd.func192.trans (congrArg some (by kernel_rfl))
  f143 := Tryd.func193.trans (congrArg some (by kernel_rfl))
  f146 := Tryd.func129.trans (congrArg some (by kernel_rfl))
  f195 := Tryd.func216.trans (congrArg some (by kernel_rfl))
  f197 := Tryd.func177.trans (congrArg some (by kernel_rfl))
  f217 := Tryd.func229.trans (congrArg some (by kernel_rfl))
  f218 := Tryd.func217.trans (congrArg some (by kernel_rfl))
  f219 := Tryd.func218.trans (congrArg some (by kernel_rfl))
  f221 := Tryd.func169.trans (congrArg some (by kernel_rfl))
  f224 := Tryd.func231.trans (congrArg some (by kernel_rfl))
  f225 := Tryd.func230.trans (congrArg some (by kernel_rfl))
  f260 := Tryd.func198.trans (congrArg some (by kernel_rfl))
  f266 := Tryd.func237.trans (congrArg some (by kernel_rfl))
  f267 := Tryd.func232.trans (congrArg some (by kernel_rfl))
  f268 := Tryd.func191.trans (congrArg some (by kernel_rfl))
  f314 := Tryd.func238.trans (congrArg some (by kernel_rfl))
  t0 := Tryd.underlying0
  a0 := Tryd.isAgg0
  z0 := Tryd.sizeOf0
  v0 := Tryd.zeroValue0
  t3 := Tryd.underlying3
  a3 := Tryd.isAgg3
  z3 := Tryd.sizeOf3
  v3 := Tryd.zeroValue3
  t4 := Tryd.underlying4
  a4 := Tryd.isAgg4
  z4 := Tryd.sizeOf4
  v4 := Tryd.zeroValue4
  t5 := Tryd.underlying5
  a5 := Tryd.isAgg5
  z5 := Tryd.sizeOf5
  v5 := Tryd.zeroValue5
  t9 := Tryd.underlying9
  a9 := Tryd.isAgg9
  z9 := Tryd.sizeOf9
  v9 := Tryd.zeroValue9
  t21 := Tryd.underlying21
  a21 := Tryd.isAgg21
  z21 := Tryd.sizeOf21
  v21 := Tryd.zeroValue21
  t31 := Tryd.underlying22
  a31 := Tryd.isAgg22
  z31 := Tryd.sizeOf22
  v31 := Tryd.zeroValue22
  t46 := Tryd.underlying181
  a46 := Tryd.isAgg181
  z46 := Tryd.sizeOf181
  v46 := Tryd.zeroValue181
  t51 := Tryd.underlying219
  a51 := Tryd.isAgg219
  z51 := Tryd.sizeOf219
  v51 := Tryd.zeroValue219
  t105 := Tryd.underlying188
  a105 := Tryd.isAgg188
  z105 := Tryd.sizeOf188
  v105 := Tryd.zeroValue188
  t119 := Tryd.underlying222
  a119 := Tryd.isAgg222
  z119 := Tryd.sizeOf222
  t138 := Tryd.underlying224
  a138 := Tryd.isAgg224
  z138 := Tryd.sizeOf224
  v138 := Tryd.zeroValue224
  t139 := Tryd.underlying225
  a139 := Tryd.isAgg225
  z139 := Tryd.sizeOf225
  v139 := Tryd.zeroValue225
  t146 := Tryd.underlying240
  a146 := Tryd.isAgg240
  z146 := Tryd.sizeOf240
  v146 := Tryd.zeroValue240
  g1 := by kernel_rfl
  g3 := by kernel_rfl
  g4 := by kernel_rfl
  i0 := by kernel_rfl
  i3 := by kernel_rfl
  i4 := by kernel_rfl
  i5 := by kernel_rfl
  i9 := by kernel_rfl
  i21 := by kernel_rfl
  i31 := by kernel_rfl
  i46 := by kernel_rfl
  i51 := by kernel_rfl
  i105 := by kernel_rfl
  i138 := by kernel_rfl
  i139 := by kernel_rfl
  i146 := by kernel_rfl
  m1 := by kernel_rfl
  s1_3 := fun w h => Go.Proofs.cell_of_shapedOpen_int (zero := #[.int .i64 0]) (t := 3) h (of_decide_eq_true (by kernel_rfl)) (by kernel_rfl) rfl (by kernel_rfl) (by kernel_rfl) Tryd.underlying3
  m3 := by kernel_rfl
  m4 := by kernel_rfl }
open Go.RowKit Go.Lib in
/-- strings.Split, sep not empty. (LAID: no walk: one application.) -/
theorem Tryd.strings_Split_shaped (s sep : ByteArray) (w : World) (h : w.ShapedOpen Tryd.prog) (hs : s.size < 4294967281) (h1 : 1 ≤ sep.size) :
    Calls Tryd.prog 129 #[.string s, .string sep] w fun e w' =>
      e = .returned (.slice (some ⟨w.heap.size, 0, none⟩) (Lib.countB s sep + 1) (Lib.countB s sep + 1)) ∧ w' = w.alloc (.cells ((Lib.splitB sep 0 (Lib.countB s sep) s).map Value.string).toArray 9) := Any.strings_Split_shaped Tryd.laysM146 s sep w h hs h1
def Tryd.lays197_ren : Go.Shelf.Ren := ⟨fun | 197 => 177 | 260 => 198 | n => n, fun | 9 => 9 | 21 => 21 | 3 => 3 | 4 => 4 | 5 => 5 | 105 => 188 | 119 => 222 | 0 => 0 | 46 => 181 | 139 => 225 | 138 => 224 | n => n, fun | 3 => 0 | 4 => 1 | n => n⟩
theorem Tryd.lays197 : Go.Proofs.Lays.n197 Tryd.prog Tryd.lays197_ren := {
  mixed := by kernel_rfl
  f197 := Tryd.func177.trans (congrArg some (by kernel_rfl))
  f260 := Tryd.func198.trans (congrArg some (by kernel_rfl))
  t0 := Tryd.underlying0
  a0 := Tryd.isAgg0
  z0 := Tryd.sizeOf0
  v0 := Tryd.zeroValue0
  t3 := Tryd.underlying3
  a3 := Tryd.isAgg3
  z3 := Tryd.sizeOf3
  v3 := Tryd.zeroValue3
  t4 := Tryd.underlying4
  a4 := Tryd.isAgg4
  z4 := Tryd.sizeOf4
  v4 := Tryd.zeroValue4
  t5 := Tryd.underlying5
  a5 := Tryd.isAgg5
  z5 := Tryd.sizeOf5
  v5 := Tryd.zeroValue5
  t9 := Tryd.underlying9
  a9 := Tryd.isAgg9
  z9 := Tryd.sizeOf9
  v9 := Tryd.zeroValue9
  t21 := Tryd.underlying21
  a21 := Tryd.isAgg21
  z21 := Tryd.sizeOf21
  v21 := Tryd.zeroValue21
  t46 := Tryd.underlying181
  a46 := Tryd.isAgg181
  z46 := Tryd.sizeOf181
  v46 := Tryd.zeroValue181
  t105 := Tryd.underlying188
  a105 := Tryd.isAgg188
  z105 := Tryd.sizeOf188
  v105 := Tryd.zeroValue188
  t119 := Tryd.underlying222
  a119 := Tryd.isAgg222
  z119 := Tryd.sizeOf222
  t138 := Tryd.underlying224
  a138 := Tryd.isAgg224
  z138 := Tryd.sizeOf224
  v138 := Tryd.zeroValue224
  t139 := Tryd.underlying225
  a139 := Tryd.isAgg225
  z139 := Tryd.sizeOf225
  v139 := Tryd.zeroValue225
  g3 := by kernel_rfl
  g4 := by kernel_rfl }
open Go.RowKit Go.Lib in
/-- unicode/utf8.DecodeRuneInString: "DecodeRuneInString is like DecodeRune but its input is a string.": ("DecodeRune unpacks the first UTF-8 encoding in p and returns the rune and its width in bytes."): WHERE s BEGINS WITH AN ASCII BYTE x: (x, 1). (LAID: no walk: one application.) -/
theorem Tryd.utf8_DecodeRuneInString_ascii (s : ByteArray) (x : UInt8) (w : World) (h0 : s.data.toList[0]? = some x) (hx : x.toNat < 128) :
    Calls Tryd.prog 177 #[.string s] w fun e w' => e = .returned (.tuple #[.int .i32 x.toNat, .int .i64 1]) ∧ w' = w := Any.utf8_DecodeRuneInString_ascii Tryd.lays197 s x w h0 hx
def Tryd.lays260_ren : Go.Shelf.Ren := ⟨fun | 260 => 198 | n => n, fun | 9 => 9 | 21 => 21 | 3 => 3 | 4 => 4 | 5 => 5 | 119 => 222 | 0 => 0 | 46 => 181 | 139 => 225 | 138 => 224 | n => n, fun | 3 => 0 | 4 => 1 | n => n⟩
theorem Tryd.lays260 : Go.Proofs.Lays.n260 Tryd.prog Tryd.lays260_ren := {
  mixed := by kernel_rfl
  f260 := Tryd.func198.trans (congrArg some (by kernel_rfl))
  t0 := Tryd.underlying0
  a0 := Tryd.isAgg0
  z0 := Tryd.sizeOf0
  v0 := Tryd.zeroValue0
  t3 := Tryd.underlying3
  a3 := Tryd.isAgg3
  z3 := Tryd.sizeOf3
  v3 := Tryd.zeroValue3
  t4 := Tryd.underlying4
  a4 := Tryd.isAgg4
  z4 := Tryd.sizeOf4
  v4 := Tryd.zeroValue4
  t5 := Tryd.underlying5
  a5 := Tryd.isAgg5
  z5 := Tryd.sizeOf5
  v5 := Tryd.zeroValue5
  t9 := Tryd.underlying9
  a9 := Tryd.isAgg9
  z9 := Tryd.sizeOf9
  v9 := Tryd.zeroValue9
  t21 := Tryd.underlying21
  a21 := Tryd.isAgg21
  z21 := Tryd.sizeOf21
  v21 := Tryd.zeroValue21
  t46 := Tryd.underlying181
  a46 := Tryd.isAgg181
  z46 := Tryd.sizeOf181
  v46 := Tryd.zeroValue181
  t119 := Tryd.underlying222
  a119 := Tryd.isAgg222
  z119 := Tryd.sizeOf222
  t138 := Tryd.underlying224
  a138 := Tryd.isAgg224
  z138 := Tryd.sizeOf224
  v138 := Tryd.zeroValue224
  t139 := Tryd.underlying225
  a139 := Tryd.isAgg225
  z139 := Tryd.sizeOf225
  v139 := Tryd.zeroValue225
  g3 := by kernel_rfl
  g4 := by kernel_rfl }
open Go.RowKit Go.Lib in
theorem Tryd.utf8_decodeRuneInStringSlow (s : ByteArray) (w : World) (hT : Lib.Utf8Tabs 0 1 w) :
    Calls Tryd.prog 198 #[.string s] w fun e w' => e = .returned (.tuple #[.int .i32 (Lib.decodeGo s).1, .int .i64 (Lib.decodeGo s).2]) ∧ Below w.heap.size w w' := Any.utf8_decodeRuneInStringSlow Tryd.lays260 s w hT
open Go.RowKit Go.Lib in
/-- **unicode/utf8.DecodeRuneInString AT EVERY STRING.** (LAID: no walk: one application.) -/
theorem Tryd.utf8_DecodeRuneInString (s : ByteArray) (w : World) (hT : Lib.Utf8Tabs 0 1 w) :
    Calls Tryd.prog 177 #[.string s] w fun e w' => e = .returned (.tuple #[.int .i32 (Lib.decodeGo s).1, .int .i64 (Lib.decodeGo s).2]) ∧ Below w.heap.size w w' := Any.utf8_DecodeRuneInString Tryd.lays197 s w hT
open Go.RowKit Go.Lib in
theorem Tryd.strings_indexFunc_grows (g : Nat) (lb : Array Value) (eg : ∀ args w, (callFunc g args).run Tryd.prog w = .ok (.enter g args) w) (p : Nat → Bool) (truth : Bool) (s : ByteArray) (w : World) (hp : PredGrows Tryd.prog g lb p w) :
    Calls Tryd.prog 194 #[.string s, .func (.func g) #[] lb, .bool truth] w fun e w' => e = .returned (.int .i64 (Lib.idxFunc p truth s)) ∧ Below w.heap.size w w' := Any.strings_indexFunc_grows Tryd.lays315 g lb eg p truth s w hp
open Go.RowKit Go.Lib in
theorem Tryd.strings_IndexFunc_grows (g : Nat) (lb : Array Value) (eg : ∀ args w, (callFunc g args).run Tryd.prog w = .ok (.enter g args) w) (p : Nat → Bool) (s : ByteArray) (w : World) (hp : PredGrows Tryd.prog g lb p w) :
    Calls Tryd.prog 171 #[.string s, .func (.func g) #[] lb] w fun e w' => e = .returned (.int .i64 (Lib.idxFunc p true s)) ∧ Below w.heap.size w w' := Any.strings_IndexFunc_grows Tryd.laysGw15 g lb eg p s w hp
def Tryd.lays109_ren : Go.Shelf.Ren := ⟨fun | 109 => 153 | n => n, fun | 31 => 22 | 9 => 9 | 3 => 3 | 0 => 0 | 4 => 4 | n => n, fun | n => n⟩
theorem Tryd.lays109 : Go.Proofs.Lays.n109 Tryd.prog Tryd.lays109_ren := {
  mixed := by kernel_rfl
  f109 := Tryd.func153.trans (congrArg some (by kernel_rfl))
  t0 := Tryd.underlying0
  a0 := Tryd.isAgg0
  z0 := Tryd.sizeOf0
  v0 := Tryd.zeroValue0
  t3 := Tryd.underlying3
  a3 := Tryd.isAgg3
  z3 := Tryd.sizeOf3
  v3 := Tryd.zeroValue3
  t4 := Tryd.underlying4
  a4 := Tryd.isAgg4
  z4 := Tryd.sizeOf4
  v4 := Tryd.zeroValue4
  t9 := Tryd.underlying9
  a9 := Tryd.isAgg9
  z9 := Tryd.sizeOf9
  v9 := Tryd.zeroValue9
  t31 := Tryd.underlying22
  a31 := Tryd.isAgg22
  z31 := Tryd.sizeOf22
  v31 := Tryd.zeroValue22 }
open Go.Lib in
/-- slices.Index at []string: "Index returns the index of the first occurrence of v in s, or -1 if not present.": IT RETURNS 'Lib.idxOfS (the elements) v'; the world is as it was. 'zs': what the cells behind the slice's address hold (its spare capacity too, if you have it); 'zs.take n': its elements. (LAID: no walk: one application.) -/
theorem Tryd.slices_Index_string (b off n c : Nat) (zs : List ByteArray) (x : ByteArray) (w : World) (hz : n ≤ zs.length) (hbig : n ≤ 9223372036854775807) (hc : ∀ j, j < zs.length → w.cell? ⟨b, off + j, none⟩ = some (.string (zs.getD j ByteArray.empty))) :
    Calls Tryd.prog 153 #[.slice (some ⟨b, off, none⟩) n c, .string x] w fun e w' => e = .returned (.int .i64 (Lib.idxOfS (zs.take n) x)) ∧ w' = w := Any.slices_Index_string Tryd.lays109 b off n c zs x w hz hbig hc
open Go.Lib in
/-- The same at a slice of length 0, a nil one too: no cell is known, none is asked for. (LAID: no walk: one application.) -/
theorem Tryd.slices_Index_string_empty (a : Option Addr) (c : Nat) (x : ByteArray) (w : World) :
    Calls Tryd.prog 153 #[.slice a 0 c, .string x] w fun e w' => e = .returned (.int .i64 (Lib.idxOfS [] x)) ∧ w' = w := Any.slices_Index_string_empty Tryd.lays109 a c x w
def Tryd.lays110_ren : Go.Shelf.Ren := ⟨fun | 110 => 107 | 109 => 153 | n => n, fun | 31 => 22 | 9 => 9 | 4 => 4 | 3 => 3 | 0 => 0 | n => n, fun | n => n⟩
theorem Tryd.lays110 : Go.Proofs.Lays.n110 Tryd.prog Tryd.lays110_ren := {
  mixed := by kernel_rfl
  f109 := Tryd.func153.trans (congrArg some (by kernel_rfl))
  f110 := Tryd.func107.trans (congrArg some (by kernel_rfl))
  t0 := Tryd.underlying0
  a0 := Tryd.isAgg0
  z0 := Tryd.sizeOf0
  v0 := Tryd.zeroValue0
  t3 := Tryd.underlying3
  a3 := Tryd.isAgg3
  z3 := Tryd.sizeOf3
  v3 := Tryd.zeroValue3
  t4 := Tryd.underlying4
  a4 := Tryd.isAgg4
  z4 := Tryd.sizeOf4
  v4 := Tryd.zeroValue4
  t9 := Tryd.underlying9
  a9 := Tryd.isAgg9
  z9 := Tryd.sizeOf9
  v9 := Tryd.zeroValue9
  t31 := Tryd.underlying22
  a31 := Tryd.isAgg22
  z31 := Tryd.sizeOf22
  v31 := Tryd.zeroValue22 }
open Go.Lib in
/-- slices.Contains at []string: "Contains reports whether v is present in s.": IT RETURNS 'Lib.containsS (the elements) v', which is true just where v is among them ('Lib.containsS_iff'); the world is as it was. ITS CALLEE slices.Index IS MET BY ITS OWN CONTRACT OFF THE SHELF (lay that first): no loop is walked here. (LAID: no walk: one application.) -/
theorem Tryd.slices_Contains_string (b off n c : Nat) (zs : List ByteArray) (x : ByteArray) (w : World) (hz : n ≤ zs.length) (hbig : n ≤ 9223372036854775807) (hc : ∀ j, j < zs.length → w.cell? ⟨b, off + j, none⟩ = some (.string (zs.getD j ByteArray.empty))) :
    Calls Tryd.prog 107 #[.slice (some ⟨b, off, none⟩) n c, .string x] w fun e w' => e = .returned (.bool (Lib.containsS (zs.take n) x)) ∧ w' = w := Any.slices_Contains_string Tryd.lays110 b off n c zs x w hz hbig hc
open Go.Lib in
/-- The same at a slice of length 0, a nil one too. (LAID: no walk: one application.) -/
theorem Tryd.slices_Contains_string_empty (a : Option Addr) (c : Nat) (x : ByteArray) (w : World) :
    Calls Tryd.prog 107 #[.slice a 0 c, .string x] w fun e w' => e = .returned (.bool false) ∧ w' = w := Any.slices_Contains_string_empty Tryd.lays110 a c x w
def Tryd.lays193_ren : Go.Shelf.Ren := ⟨fun | 193 => 115 | n => n, fun | 31 => 22 | 9 => 9 | 4 => 4 | 3 => 3 | 0 => 0 | n => n, fun | n => n⟩
theorem Tryd.lays193 : Go.Proofs.Lays.n193 Tryd.prog Tryd.lays193_ren := {
  mixed := by kernel_rfl
  f193 := Tryd.func115.trans (congrArg some (by kernel_rfl))
  t0 := Tryd.underlying0
  a0 := Tryd.isAgg0
  z0 := Tryd.sizeOf0
  v0 := Tryd.zeroValue0
  t3 := Tryd.underlying3
  a3 := Tryd.isAgg3
  z3 := Tryd.sizeOf3
  v3 := Tryd.zeroValue3
  t4 := Tryd.underlying4
  a4 := Tryd.isAgg4
  z4 := Tryd.sizeOf4
  v4 := Tryd.zeroValue4
  t9 := Tryd.underlying9
  a9 := Tryd.isAgg9
  z9 := Tryd.sizeOf9
  v9 := Tryd.zeroValue9
  t31 := Tryd.underlying22
  a31 := Tryd.isAgg22
  z31 := Tryd.sizeOf22
  v31 := Tryd.zeroValue22 }
open Go.RowKit Go.Lib in
/-- slices.Equal at []string: "Equal reports whether two slices are equal: the same length and all elements equal. If the lengths are different, Equal returns false. Otherwise, the elements are compared in increasing index order, and the comparison stops at the first unequal pair. Empty and nil slices are considered equal.": IT RETURNS WHETHER THE TWO LISTS OF ELEMENTS ARE ONE; the world is as it was but for the count of draws (the test 's1[i] != s2[i]' has two reads, whose order the model draws, once a round). 'xs', 'ys': what the cells behind the two addresses hold (the spare capacity too, if you have it); 'xs.take n', 'ys.take m': the elements. THE TWO SLICES MAY OVERLAP. (LAID: no walk: one application.) -/
theorem Tryd.slices_Equal_string (b1 o1 n c b2 o2 m d : Nat) (xs ys : List ByteArray) (w : World) (hx : n ≤ xs.length) (hy : m ≤ ys.length) (hbig : n ≤ 9223372036854775807) (hbig2 : m ≤ 9223372036854775807) (hc1 : ∀ j, j < xs.length → w.cell? ⟨b1, o1 + j, none⟩ = some (.string (xs.getD j ByteArray.empty))) (hc2 : ∀ j, j < ys.length → w.cell? ⟨b2, o2 + j, none⟩ = some (.string (ys.getD j ByteArray.empty))) :
    Calls Tryd.prog 115 #[.slice (some ⟨b1, o1, none⟩) n c, .slice (some ⟨b2, o2, none⟩) m d] w fun e w' => e = .returned (.bool (decide (xs.take n = ys.take m))) ∧ ∃ q, w' = w.drewN q := Any.slices_Equal_string Tryd.lays193 b1 o1 n c b2 o2 m d xs ys w hx hy hbig hbig2 hc1 hc2
open Go.RowKit Go.Lib in
/-- The same where the first is of length 0 (a nil one too): no cell is asked for. (LAID: no walk: one application.) -/
theorem Tryd.slices_Equal_string_empty (a1 a2 : Option Addr) (c m d : Nat) (w : World) (hbig2 : m ≤ 9223372036854775807) :
    Calls Tryd.prog 115 #[.slice a1 0 c, .slice a2 m d] w fun e w' => e = .returned (.bool (decide (m = 0))) ∧ w' = w := Any.slices_Equal_string_empty Tryd.lays193 a1 a2 c m d w hbig2
def Tryd.laysNm216_ren : Go.Shelf.Ren := ⟨fun | 16 => 113 | n => n, fun | 24 => 22 | 9 => 9 | 4 => 4 | n => n, fun | n => n⟩
theorem Tryd.laysNm216 : Go.Proofs.Lays2.n16 Tryd.prog Tryd.laysNm216_ren := {
  mixed := by kernel_rfl
  f16 := Tryd.func113.trans (congrArg some (by kernel_rfl))
  t4 := Tryd.underlying4
  a4 := Tryd.isAgg4
  z4 := Tryd.sizeOf4
  v4 := Tryd.zeroValue4
  t9 := Tryd.underlying9
  a9 := Tryd.isAgg9
  z9 := Tryd.sizeOf9
  v9 := Tryd.zeroValue9
  t24 := Tryd.underlying22
  a24 := Tryd.isAgg22
  z24 := Tryd.sizeOf22
  v24 := Tryd.zeroValue22
  i9 := by kernel_rfl }
open Go.RowKit Go.Lib in
/-- slices.Clone at []string: "Clone returns a copy of the slice. The elements are copied using assignment, so this is a shallow clone. The result may have additional unused capacity. The result preserves the nilness of s.": OF A SLICE THAT IS NOT nil IT RETURNS A SLICE THAT IS NOT nil, OF THE SAME ELEMENTS, IN MEMORY OF THE CALL's OWN: in the how-to's words (6f): 'w'.ownsRow B e 1 v' n cells': v' begins at the head of a row among the blocks from B on (B: the heap's size at the call), not frozen, whose first cells are the elements · 'Below B w w'': below B all is as it was. The capacity is whatever the run-time gives. 'zs': what the cells behind the slice's address hold; 'zs.take n': its elements. (LAID: no walk: one application.) -/
theorem Tryd.slices_Clone_string (b off n c : Nat) (zs : List ByteArray) (w : World) (hz : n ≤ zs.length) (hbig : n * 16 ≤ 140737488355328) (hc : ∀ j, j < zs.length → w.cell? ⟨b, off + j, none⟩ = some (.string (zs.getD j ByteArray.empty))) :
    Calls Tryd.prog 113 #[.slice (some ⟨b, off, none⟩) n c] w fun e w' => ∃ v', e = .returned v' ∧ w'.ownsRow w.heap.size 9 1 v' n ((zs.take n).map (Value.string)) ∧ v' ≠ .slice none 0 0 ∧ Below w.heap.size w w' := Any.slices_Clone_string Tryd.laysNm216 b off n c zs w hz hbig hc
open Go.RowKit Go.Lib in
/-- The same at nil: nil comes back; the world is as it was. (LAID: no walk: one application.) -/
theorem Tryd.slices_Clone_string_nil (n c : Nat) (w : World) :
    Calls Tryd.prog 113 #[.slice none n c] w fun e w' => e = .returned (.slice none 0 0) ∧ w' = w := Any.slices_Clone_string_nil Tryd.laysNm216 n c w
open Go.RowKit Go.Lib in
/-- The same at a slice of length 0 that is not nil, WHATEVER ITS ADDRESS (no cell is asked for): a slice that is not nil and owns nothing comes back. (LAID: no walk: one application.) -/
theorem Tryd.slices_Clone_string_zero (a : Addr) (c : Nat) (w : World) :
    Calls Tryd.prog 113 #[.slice (some a) 0 c] w fun e w' => ∃ v', e = .returned v' ∧ w'.ownsRow w.heap.size 9 1 v' 0 [] ∧ v' ≠ .slice none 0 0 ∧ Below w.heap.size w w' := Any.slices_Clone_string_zero Tryd.laysNm216 a c w
def Tryd.lays194_ren : Go.Shelf.Ren := ⟨fun | 194 => 151 | n => n, fun | 31 => 22 | 9 => 9 | 3 => 3 | 4 => 4 | 0 => 0 | n => n, fun | n => n⟩
theorem Tryd.lays194 : Go.Proofs.Lays.n194 Tryd.prog Tryd.lays194_ren := {
  mixed := by kernel_rfl
  f194 := Tryd.func151.trans (congrArg some (by kernel_rfl))
  t0 := Tryd.underlying0
  a0 := Tryd.isAgg0
  z0 := Tryd.sizeOf0
  v0 := Tryd.zeroValue0
  t3 := Tryd.underlying3
  a3 := Tryd.isAgg3
  z3 := Tryd.sizeOf3
  v3 := Tryd.zeroValue3
  t4 := Tryd.underlying4
  a4 := Tryd.isAgg4
  z4 := Tryd.sizeOf4
  v4 := Tryd.zeroValue4
  t9 := Tryd.underlying9
  a9 := Tryd.isAgg9
  z9 := Tryd.sizeOf9
  v9 := Tryd.zeroValue9
  t31 := Tryd.underlying22
  a31 := Tryd.isAgg22
  z31 := Tryd.sizeOf22
  v31 := Tryd.zeroValue22 }
open Go.RowKit Go.Lib Go.Sort in
/-- slices.Compact at []string, over an array: the library's two loops are walked. (LAID: no walk: one application.) -/
theorem Tryd.slices_Compact_string_arr (blk off cap : Nat) (d : Array (List UInt8)) (w : World) (hH : Holds encStr w blk off d) (hsz : d.size ≤ 9223372036854775807) (hcap : d.size ≤ cap) :
    Calls Tryd.prog 151 #[.slice (some ⟨blk, off, none⟩) d.size cap] w fun e w' => e = .returned (.slice (some ⟨blk, off, none⟩) (compactUpTo d d.size).length cap) ∧ ∃ q, w' = putRow encStr (Sort.ahead w q) blk off (compactUpTo d d.size ++ List.replicate (d.size - (compactUpTo d d.size).length) []).toArray := Any.slices_Compact_string_arr Tryd.lays194 blk off cap d w hH hsz hcap
open Go.RowKit Go.Lib Go.Sort in
/-- slices.Compact at []string: "Compact replaces consecutive runs of equal elements with a single copy. This is like the uniq command found on Unix. Compact modifies the contents of the slice s and returns the modified slice, which may have a smaller length. Compact zeroes the elements between the new length and the original length. The result preserves the nilness of s.": IT RETURNS THE SLICE CUT TO 'Lib.compact zs'; ITS CELLS HOLD 'Lib.compact zs', THEN ZERO VALUES up to the old length; all else is as it was, but for the count of draws. IN THE WORDS OF slices.Sort's CONTRACT ('Holds', 'putRow'): so the everyday 'slices.Sort(xs); xs = slices.Compact(xs)' goes from the one contract to the other. It asks 'zs.length ≤ cap' (every slice's: the reslicing 's[:k]' looks at it). Length 0, nil: '.._empty'. (LAID: no walk: one application.) -/
theorem Tryd.slices_Compact_string (blk off cap : Nat) (zs : List (List UInt8)) (w : World) (hH : Holds encStr w blk off zs.toArray) (hsz : zs.length ≤ 9223372036854775807) (hcap : zs.length ≤ cap) :
    Calls Tryd.prog 151 #[.slice (some ⟨blk, off, none⟩) zs.length cap] w fun e w' => e = .returned (.slice (some ⟨blk, off, none⟩) (Lib.compact zs).length cap) ∧ ∃ q, w' = putRow encStr (Sort.ahead w q) blk off (Lib.compact zs ++ List.replicate (zs.length - (Lib.compact zs).length) []).toArray := Any.slices_Compact_string Tryd.lays194 blk off cap zs w hH hsz hcap
open Go.RowKit Go.Lib Go.Sort in
/-- The same at a slice of length 0, a nil one too: it comes back as it is. (LAID: no walk: one application.) -/
theorem Tryd.slices_Compact_string_empty (a : Option Addr) (cap : Nat) (w : World) :
    Calls Tryd.prog 151 #[.slice a 0 cap] w fun e w' => e = .returned (.slice a 0 cap) ∧ w' = w := Any.slices_Compact_string_empty Tryd.lays194 a cap w
open Go.RowKit Go.Lib Go.Sort in
/-- slices.Compact at []string, of an argument. (LAID: no walk: one application.) -/
theorem Tryd.slices_Compact_string_cells (b off n c : Nat) (Sx : Nat → ByteArray) (w : World) (hbig : n ≤ 9223372036854775807) (hcap : n ≤ c) (hc : ∀ i, i < n → w.cell? ⟨b, off + i, none⟩ = some (.string (Sx i))) (hf : ∀ j, j < n → w.frozen? ⟨b, off + j, none⟩ = false) :
    Calls Tryd.prog 151 #[.slice (some ⟨b, off, none⟩) n c] w fun e w' => e = .returned (.slice (some ⟨b, off, none⟩) (Lib.compact (Lib.strsOf Sx n)).length c) ∧ ∃ q, w' = (w.drewN q).setCells b off ((Lib.compact (Lib.strsOf Sx n) ++ List.replicate (n - (Lib.compact (Lib.strsOf Sx n)).length) []).map encStr) := Any.slices_Compact_string_cells Tryd.lays194 b off n c Sx w hbig hcap hc hf
open Go.RowKit Go.Sort in
/-- .. and plain. (LAID: no walk: one application.) -/
theorem Tryd.slices_Sort_string_none (p : Option Addr) (cap : Nat) (w : World) :
    Calls Tryd.prog 150 #[.slice p 0 cap] w fun e w' => e = .returned (.tuple #[]) ∧ w' = w := Any.slices_Sort_string_none Tryd.lays190 p cap w
open Go.RowKit Go.Lib in
theorem Tryd.slices_Equal_string_lens (a1 a2 : Option Addr) (n c m d : Nat) (w : World) (hnm : n ≠ m) :
    Calls Tryd.prog 115 #[.slice a1 n c, .slice a2 m d] w fun e w' => e = .returned (.bool false) ∧ w' = w := Any.slices_Equal_string_lens Tryd.lays193 a1 a2 n c m d w hnm
def Tryd.lays196_ren : Go.Shelf.Ren := ⟨fun | 196 => 185 | 259 => 215 | n => n, fun | 9 => 9 | 4 => 4 | 3 => 3 | 5 => 5 | 12 => 12 | 119 => 222 | 0 => 0 | 46 => 181 | 139 => 225 | 138 => 224 | 53 => 150 | n => n, fun | 3 => 0 | 4 => 1 | n => n⟩
theorem Tryd.lays196 : Go.Proofs.Lays.n196 Tryd.prog Tryd.lays196_ren := {
  mixed := by kernel_rfl
  f196 := Tryd.func185.trans (congrArg some (by kernel_rfl))
  f259 := Tryd.func215.trans (congrArg some (by kernel_rfl))
  t0 := Tryd.underlying0
  a0 := Tryd.isAgg0
  z0 := Tryd.sizeOf0
  v0 := Tryd.zeroValue0
  t3 := Tryd.underlying3
  a3 := Tryd.isAgg3
  z3 := Tryd.sizeOf3
  v3 := Tryd.zeroValue3
  t4 := Tryd.underlying4
  a4 := Tryd.isAgg4
  z4 := Tryd.sizeOf4
  v4 := Tryd.zeroValue4
  t5 := Tryd.underlying5
  a5 := Tryd.isAgg5
  z5 := Tryd.sizeOf5
  v5 := Tryd.zeroValue5
  t9 := Tryd.underlying9
  a9 := Tryd.isAgg9
  z9 := Tryd.sizeOf9
  v9 := Tryd.zeroValue9
  t12 := Tryd.underlying12
  a12 := Tryd.isAgg12
  z12 := Tryd.sizeOf12
  v12 := Tryd.zeroValue12
  t46 := Tryd.underlying181
  a46 := Tryd.isAgg181
  z46 := Tryd.sizeOf181
  v46 := Tryd.zeroValue181
  t53 := Tryd.underlying150
  a53 := Tryd.isAgg150
  z53 := Tryd.sizeOf150
  v53 := Tryd.zeroValue150
  t119 := Tryd.underlying222
  a119 := Tryd.isAgg222
  z119 := Tryd.sizeOf222
  t138 := Tryd.underlying224
  a138 := Tryd.isAgg224
  z138 := Tryd.sizeOf224
  v138 := Tryd.zeroValue224
  t139 := Tryd.underlying225
  a139 := Tryd.isAgg225
  z139 := Tryd.sizeOf225
  v139 := Tryd.zeroValue225
  g3 := by kernel_rfl
  g4 := by kernel_rfl }
open Go.RowKit Go.Lib in
theorem Tryd.utf8_ValidString (s : ByteArray) (w : World) (hs : s.size ≤ 9223372036854775807) (hT : Lib.Utf8Tabs 0 1 w) :
    Calls Tryd.prog 185 #[.string s] w fun e w' => e = .returned (.bool (Lib.validD s.data.toList)) ∧ Below w.heap.size w w' := Any.utf8_ValidString Tryd.lays196 s w hs hT
end Go.Proofs
end
section
/- What the program's calls need of the package variables that Go's library reads: the tables of unicode/utf8 as their text lays them, and a whole number in internal/bytealg.MaxLen; it stays where nothing elder is written. No condition. -/
namespace Go.Proofs.YtokecnkjgoghhaaDoor.EGlob
open Go.Lib Go.RowKit
def G (w : World) : Prop := Lib.Utf8Tabs 0 1 w ∧ ∃ m, w.cell? ⟨2, 0, none⟩ = some (.int .i64 m)
theorem G_below {w w' : World} (h : G w) (hb : Below w.heap.size w w') : G w' :=
  ⟨Utf8Tabs_below h.1 hb, by
    obtain ⟨m, hm⟩ := h.2
    exact ⟨m, (hb.cell (World.block_lt_of_cell? w _ hm)).trans hm⟩⟩
end Go.Proofs.YtokecnkjgoghhaaDoor.EGlob
end
section
/- Proved: what name.Right, lines.Right, strings.Split and slices.Clone answer, for texts and lists of any make. Conditions: strings.Split: a text shorter than 4294967281 bytes, a separator of a byte or more; slices.Clone: cells of at most 2^47 bytes; the package variables of EGlob. -/
namespace Go.Proofs.YtokecnkjgoghhaaDoor.EText
open Go.Shelf Go.RowKit Go.Lib Go.Proofs.YtokecnkjgoghhaaDoorW.PrintWords
set_option linter.unusedSimpArgs false

/-- May a rune stand in a name? -/
def okRune (r : Nat) : Bool := decide (97 ≤ r) && decide (r ≤ 122) || decide (48 ≤ r) && decide (r ≤ 57) || r == 46 || r == 95 || r == 45

theorem right1_pred (w : World) : PredAt Tryd.prog 170 #[] encR (fun r => !okRune r) w := by
  intro W r _
  unfold FnGives encR
  go_enter Tryd.func170, Tryd.ntmps170
  go_wp2
  all_goals
    go_ret
    refine ⟨?_, 0, rfl⟩
    refine congrArg (fun b => Ending.returned (Value.bool b)) ?_
    unfold okRune
    rw [Bool.eq_iff_iff]
    simp
    omega

def rightB (s : ByteArray) : Bool := !(s.toList == []) && decide (s.size ≤ 40) && !(s.toList == [46]) && !(s.toList == [46, 46]) && decide (Lib.idxFunc (fun r => !okRune r) true s < 0)

theorem name_Right_calls (s : ByteArray) (w : World) (hs : s.size ≤ 9223372036854775807) :
    Calls Tryd.prog 131 #[.string s] w fun e w' => e = .returned (.bool (rightB s)) ∧ Below w.heap.size w w' := by
  have e68 := enters_of Tryd.func170 (by kernel_rfl) rfl
  have hI := fun W => Tryd.strings_IndexFunc 170 #[] e68 _ s W (right1_pred W)
  generalize hx : Lib.idxFunc (fun r => !okRune r) true s = x at hI
  have Hx := Lib.hid hx
  clear hx
  by_cases h1 : s.toList = []
  · go_enter Tryd.func131, Tryd.ntmps131
    go_wp2
    go_ret
    exact ⟨by simp [rightB, h1], Below.refl _ _⟩
  by_cases h2 : s.size ≤ 40
  · by_cases h3 : s.toList = [46]
    · go_enter Tryd.func131, Tryd.ntmps131
      go_wp2
      go_ret
      exact ⟨by simp [rightB, h3], Below.refl _ _⟩
    by_cases h4 : s.toList = [46, 46]
    · go_enter Tryd.func131, Tryd.ntmps131
      go_wp2
      go_ret
      exact ⟨by simp [rightB, h4], Below.refl _ _⟩
    go_enter Tryd.func131, Tryd.ntmps131
    go_wp2_with (go_at_call 171; refine (hI _).mono ?_; rintro e w' ⟨rfl, hb⟩)
    go_ret
    exact ⟨by simp [rightB, h1, h2, h3, h4, Hx.out], hb⟩
  · go_enter Tryd.func131, Tryd.ntmps131
    go_wp2
    go_ret
    exact ⟨by simp [rightB, h2], Below.refl _ _⟩

/-! ### lines.Right -/
/-- The runes of a text from a place on: none is a sign that no line bears. -/
def okFrom (s : ByteArray) : Nat → Nat → Bool
  | 0, _ => true
  | f + 1, pos => if pos < s.size then (if (Utf8.decode s pos).1 < 32 ∧ (Utf8.decode s pos).1 ≠ 9 then false else okFrom s f (pos + (Utf8.decode s pos).2)) else true
theorem okFrom_end (s : ByteArray) (f pos : Nat) (h : ¬ pos < s.size) : okFrom s f pos = true := by cases f <;> simp [okFrom, h]
def lineB (s : ByteArray) : Bool := decide (s.size ≤ 200) && Lib.validD s.data.toList && okFrom s s.size 0
theorem below_drewNq {B : Nat} {a w : World} (h : Below B a w) : ∀ q, Below B a (w.drewN q)
  | 0 => h
  | q + 1 => (below_drewNq h q).drew

set_option maxHeartbeats 4000000 in
set_option maxRecDepth 100000 in
theorem lines_Right_calls (s : ByteArray) (w : World) (hs : s.size ≤ 9223372036854775807) (hG : EGlob.G w) :
    Calls Tryd.prog 157 #[.string s] w fun e w' => e = .returned (.bool (lineB s)) ∧ Below w.heap.size w w' := by
  have hV := Tryd.utf8_ValidString s w hs hG.1
  clear hG
  by_cases h1 : s.size ≤ 200
  · cases hv : Lib.validD s.data.toList with
    | false =>
      rw [hv] at hV
      go_enter Tryd.func157, Tryd.ntmps157
      go_wp2_with (go_at_call 185; refine hV.mono ?_; rintro e w1 ⟨rfl, hb⟩)
      go_ret
      exact ⟨by simp [lineB, hv], hb⟩
    | true =>
      rw [hv] at hV
      have Hv := Lib.hid hv
      clear hv
      go_enter Tryd.func157, Tryd.ntmps157
      go_wp2_with (go_at_call 185; refine hV.mono ?_; rintro e w1 ⟨rfl, hb⟩; have HB1 := Lib.hid hb; clear hb hV)
      go_loopg [] s.size (fun gf wx => ∃ pos : Nat, wx.heap[w1.heap.size]? = some (.stringIter s pos) ∧ Below w1.heap.size w1 wx ∧ okFrom s gf pos = okFrom s s.size 0 ∧ s.size ≤ pos + gf)
      case atStart => exact ⟨0, World.iter_heap w1 s 0, (Below.refl _ w1).alloc (Nat.le_refl _) _, rfl, by omega⟩
      case round =>
        obtain ⟨pos, hit, hbw, hleft, hfu⟩ := hrel
        by_cases hps : pos < s.size
        · obtain ⟨g', rfl⟩ : ∃ g', gk = g' + 1 := ⟨gk - 1, by omega⟩
          have hnx : ∀ ty, (Instr.next (.pointer (some ⟨w1.heap.size, 0, none⟩)) true ty).run Tryd.prog wr = _ := fun ty => Lib.run_next_any_at wr w1.heap.size s pos ty hit hps
          have hwd := Lib.width_pos s pos
          obtain ⟨R, hR⟩ : ∃ R, (Utf8.decode s pos).1 = R := ⟨_, rfl⟩
          obtain ⟨K, hK⟩ : ∃ K, (Utf8.decode s pos).2 = K := ⟨_, rfl⟩
          simp only [okFrom, hps, if_true, hR, hK] at hleft
          rw [hR, hK] at hnx
          rw [hK] at hwd
          have hit2 := Lib.iterAt_heap wr w1.heap.size s pos (pos + K) hit
          have hbw2 := Lib.below_iterAt hbw (k := w1.heap.size) (Nat.le_refl _) s (pos + K)
          obtain ⟨W, hWd⟩ : ∃ W, wr.iterAt w1.heap.size s (pos + K) = W := ⟨_, rfl⟩
          rw [hWd] at hnx hit2 hbw2
          by_cases c1 : (R : Int) < 32
          · by_cases c2 : R = 9
            · have c2z : (R : Int) = 9 := by omega
              rw [if_neg (fun z => z.2 c2)] at hleft
              go_wp2
              go_roundg g'
              case measure => omega
              case rel => exact ⟨pos + K, hit2, hbw2, hleft, by omega⟩
            · have c2z : ¬ (R : Int) = 9 := by omega
              rw [if_pos ⟨by omega, c2⟩] at hleft
              have HL := Lib.hid hleft
              clear hleft
              go_wp2
              go_ret
              exact ⟨by simp [lineB, ← HL.out], HB1.out.trans (hbw2.mono HB1.out.size)⟩
          · rw [if_neg (fun z => c1 (by omega))] at hleft
            go_wp2
            go_roundg g'
            case measure => omega
            case rel => exact ⟨pos + K, hit2, hbw2, hleft, by omega⟩
        · have hnx : ∀ ty, (Instr.next (.pointer (some ⟨w1.heap.size, 0, none⟩)) true ty).run Tryd.prog wr = _ := fun ty => Lib.run_next_end_at wr w1.heap.size s pos ty hit hps
          rw [okFrom_end s gk pos hps] at hleft
          have HL := Lib.hid hleft
          clear hleft
          go_wp2
          go_ret
          exact ⟨by simp [lineB, h1, Hv.out, ← HL.out], HB1.out.trans (hbw.mono HB1.out.size)⟩
  · go_enter Tryd.func157, Tryd.ntmps157
    go_wp2
    go_ret
    exact ⟨by simp [lineB, h1], Below.refl _ _⟩

/-! ### strings.Split -/
theorem infoStr : (Tryd.prog.info? 9).map (fun i => (i.zero, i.size, i.bytes)) = some (some (.string ⟨#[]⟩), 1, 16) := by kernel_rfl
def splitL (s sep : ByteArray) : List ByteArray := Lib.splitB sep 0 (Lib.countB s sep) s
theorem split_calls (s sep : ByteArray) (w : World) (hs : s.size < 4294967281) (h1 : 1 ≤ sep.size) (hG : EGlob.G w) :
    Calls Tryd.prog 129 #[.string s, .string sep] w fun e w' => ∃ v0_ : Value, e = .returned v0_ ∧ Kd.R Kd.string 9 w' w.heap.size (fun _ => True) v0_ (splitL s sep) ∧ Below w.heap.size w w' := by
  obtain ⟨m, hm⟩ := hG.2
  refine (Tryd.strings_Split s sep m w hs hm h1).mono ?_
  rintro e w' ⟨rfl, rfl⟩
  have hle := Lib.countB_le sep h1 s.size s (Nat.le_refl _)
  have hlen : (splitL s sep).length = Lib.countB s sep + 1 := Lib.splitB_all sep h1 0 _ s rfl
  have hmx : Lib.countB s sep + 1 ≤ maxLen := by unfold maxLen; omega
  refine ⟨_, rfl, Kd.R_of_own (v := .slice (some ⟨w.heap.size, 0, none⟩) (Lib.countB s sep + 1) (Lib.countB s sep + 1)) ⟨by rw [encs_length, hlen, Nat.mul_one], .inr ⟨w.heap.size, Lib.countB s sep + 1, ((splitL s sep).map Value.string).toArray, by rw [hlen], Nat.le_refl _, Go.Proofs.YtokecnkjgoghhaaDoorW.PrintWords.blk_new _ _, by omega, hmx, by rw [List.size_toArray, List.length_map, hlen, Nat.mul_one], ?_⟩⟩ (fun _ _ => trivial), below_alloc (Below.refl _ _) _⟩
  rw [hlen, Nat.mul_one]
  show List.take _ ((splitL s sep).map Value.string) = _
  rw [List.take_of_length_le (by rw [List.length_map, hlen]; exact Nat.le_refl _)]
  rfl

/-! ### slices.Clone -/
theorem clone_calls (A0 : Option Addr) (c0 : Nat) (l0 : List ByteArray) (w : World) (hr0 : Kd.C Kd.string w A0 l0.length l0) (hl : l0.length * 16 ≤ 140737488355328) :
    Calls Tryd.prog 113 #[.slice A0 l0.length c0] w fun e w' => ∃ v0_ : Value, e = .returned v0_ ∧ Kd.R Kd.string 9 w' w.heap.size (fun _ => True) v0_ l0 ∧ Below w.heap.size w w' := by
  have q22 : ∀ (w : World) (a : Option Addr) (n c n' c' : Nat), (binOp .eql 22 (.slice a n c) (.slice none n' c')).run Tryd.prog w = .ok (.bool a.isNone) w := fun w a n c n' c' => Lib.run_eql_slice_nil w _ _ a n c n' c' Tryd.underlying22
  rcases A0 with _ | ad
  · have h0 : l0 = [] := by
      rcases l0 with _ | ⟨x, l⟩
      · rfl
      · obtain ⟨ad, h, _⟩ := hr0.2.2 (by simp)
        cases h
    subst h0
    clear hr0
    go_enter Tryd.func113, Tryd.ntmps113
    go_wp2
    go_ret
    exact ⟨_, rfl, Kd.R_nil _ _ _ _ _, Below.refl _ _⟩
  · have HR0 := Aside0.mk hr0
    clear hr0
    go_enter Tryd.func113, Tryd.ntmps113
    go_wp2_with (first | ((with_reducible refine gate_dst (N := 5) rfl ?_); refine Kd.R_lit Kd.string w.heap.size 9 ?hg (N := 5) ?hd (xs := ([] : List ByteArray)) (inner := []) (ok := fun _ => True) (okp := fun _ => True) ?hr ?hp (fun _ hk => hk) trivial (Below.refl _ _) (Nat.le_refl _) (by simp) ?_; (case hd => rfl); (case hg => rfl); (case hr => first | (go_simp; done) | (go_simp; rfl)); (case hp => exact (Reps.none _ _)); intro v2 w2 ho hb hg_ hnew_; clear hg_ hnew_; have HO := Aside0.mk ho; have HB := Aside0.mk hb; clear ho hb) | ((with_reducible refine gate_builtin (b := .append) (xs := #[.tmp 5, .tmp 6]) rfl ?_); at_builtin; refine Kd.R_append_rows Kd.string (w0 := w) w.heap.size rfl (.tmp 5) (.tmp 6) 22 9 (.string ⟨#[]⟩) 16 rfl Tryd.underlying22 infoStr rfl (by decide) (by omega) v2 [] l0 _ _ _ (fun _ => True) (fun _ => False) rfl rfl HO.out (Kd.C_below HR0.out HB.out) (fun _ _ h => h) (fun _ h => h.elim) (fun _ _ => trivial) HB.out HB.out.size (by simpa using hl) ?_; intro v3 w3 ho3 hb3 hg3 hat3; have HO3 := Aside0.mk ho3; have HB3 := Aside0.mk hb3; clear ho3 hb3 hg3 hat3))
    go_ret
    exact ⟨_, rfl, HO3.out, HB3.out⟩
end Go.Proofs.YtokecnkjgoghhaaDoor.EText
end
section
/- What the library's functions and the hand-walked ones answer, as the machine's functions. No condition: these are definitions. -/
namespace Go.Proofs.YtokecnkjgoghhaaDoor.Ex
open Go Go.Proofs.YtokecnkjgoghhaaDoor.Ab

def str1 (g : ByteArray → Option (List RV)) : List A → Option (List RV)
  | [.c (.sc (.string s))] => g s
  | _ => none
def str2 (g : ByteArray → ByteArray → Option (List RV)) : List A → Option (List RV)
  | [.c (.sc (.string s)), .c (.sc (.string t))] => g s t
  | _ => none
def strs1 (g : List ByteArray → Option (List RV)) : List A → Option (List RV)
  | [.c (.sl .str xs)] => g xs
  | _ => none
def nilInt (g : Int → Option (List RV)) : List A → Option (List RV)
  | [.c .nl, .c (.sc (.int .i64 n))] => g n
  | _ => none

noncomputable def ext : FuncId → Option (List A → Option (List RV))
  | 131 => some (str1 fun s => if s.size ≤ 9223372036854775807 then some [.d (inj .bool (EText.rightB s))] else none)
  | 157 => some (str1 fun s => if s.size ≤ 9223372036854775807 then some [.d (inj .bool (EText.lineB s))] else none)
  | 129 => some (str2 fun s t => if s.size < 4294967281 ∧ 1 ≤ t.size then some [.own 9 .str (EText.splitL s t)] else none)
  | 113 => some (strs1 fun xs => if xs.length * 16 ≤ 140737488355328 then some [.own 9 .str xs] else none)
  | 177 => some (str1 fun s => some [.d (inj (.int .i32) (Lib.decodeGo s).1), .d (inj (.int .i64) (Lib.decodeGo s).2)])
  | 116 => some (nilInt fun n => if 0 ≤ n ∧ n.toNat * 16 < 140737488355328 then some [.own 9 .str []] else none)
  | _ => none

end Go.Proofs.YtokecnkjgoghhaaDoor.Ex
end
section
/- Proved: slices.Grow of nil gives an empty row of the call's own. Condition: the room asked for is not negative and takes at most 2^47 bytes. -/
namespace Go.Proofs.YtokecnkjgoghhaaDoor.EGrow
open Go.Shelf Go.RowKit Go.Lib Go.Proofs.YtokecnkjgoghhaaDoorW.PrintWords Go.Proofs.YtokecnkjgoghhaaDoorW.PrintLast Go.Proofs.YtokecnkjgoghhaaDoor.EText

theorem grown_form (w : World) (m : Nat) (hn : 0 < m) (v1 : Value) (w1 : World) (h : Kd.R Kd.string 9 w1 w.heap.size (fun _ => True) v1 ([] ++ List.replicate ((m : Int)).toNat ⟨#[]⟩)) :
    ∃ g cap, v1 = .slice (some ⟨g, 0, none⟩) m cap ∧ (∀ W : World, (Instr.slice 22 (.slice (some ⟨g, 0, none⟩) m cap) none (some (.int .i64 0)) none).run Tryd.prog W = .ok (.slice (some ⟨g, 0, none⟩) 0 cap) W) ∧
      Hid (∃ cur, w1.heap[g]? = some (.cells cur 9 (0, 0)) ∧ w.heap.size ≤ g ∧ cap ≤ maxLen ∧ cur.size = cap * 1) := by
  have ho := Kd.own_of_R h
  simp only [Int.toNat_natCast, List.nil_append, List.length_replicate] at ho
  rcases ho.2 with ⟨rfl, h0⟩ | ⟨g, cap, cur, rfl, hb, hh, hc, hc2, hs, ht⟩
  · omega
  · obtain ⟨i0, hi0, _, hsz0, _⟩ := info_parts EText.infoStr
    have hcut := cut_to (P := Tryd.prog) 22 9 .i64 Tryd.underlying22 hi0 (some ⟨g, 0, none⟩) m cap 0 (by omega) (by omega) hc
    exact ⟨g, cap, rfl, hcut, Lib.hid ⟨cur, hh, hb, hc2, hs⟩⟩

set_option maxRecDepth 100000 in
theorem grow_nil (n : Int) (w : World) (h0 : 0 ≤ n) (hl : n.toNat * 16 < 140737488355328) :
    Calls Tryd.prog 116 #[.slice none 0 0, .int .i64 n] w fun e w' => ∃ v0_ : Value, e = .returned v0_ ∧ Kd.R Kd.string 9 w' w.heap.size (fun _ => True) v0_ [] ∧ Below w.heap.size w w' := by
  obtain ⟨m, rfl⟩ := Int.eq_ofNat_of_zero_le h0
  rw [Int.toNat_natCast] at hl
  by_cases hn : 0 < m
  · have hm : m < 8796093022208 := by omega
    have HL := Lib.hid hl
    clear hl h0
    go_enter Tryd.func116, Tryd.ntmps116
    go_wp2_with ((with_reducible refine gate_builtin (b := .append) (xs := #[.tmp 20, .tmp 21]) rfl ?_); at_builtin; refine Kd.R_append_zeros Kd.string (w0 := w) w.heap.size rfl (.tmp 20) (.tmp 21) 22 3 9 (.string ⟨#[]⟩) 16 rfl Tryd.underlying22 (k := .i64) Tryd.underlying3 EText.infoStr rfl (by decide) (by omega) (.slice none 0 0) [] ⟨#[]⟩ (kx := .i64) (m : Int) (fun _ => True) rfl rfl rfl (fun _ _ => trivial) (Kd.R_nil _ _ _ _ _) (Int.natCast_nonneg m) (Below.refl _ _) (Nat.le_refl _) (by rw [Int.toNat_natCast]; have := HL.out; simp; omega) ?_; intro v1 w1 ho hb hg hat; obtain ⟨g, cap, rfl, hcut, HX⟩ := grown_form w m hn v1 w1 ho; have HB := Lib.hid hb; clear ho hb hg hat)
    go_ret
    obtain ⟨cur, hh, hb, hc2, hs⟩ := HX.out
    exact ⟨_, rfl, Kd.R_of_own (xs := []) ⟨rfl, .inr ⟨g, cap, cur, rfl, hb, hh, Nat.zero_le _, hc2, hs, rfl⟩⟩ (fun _ _ => trivial), HB.out⟩
  · have hq : m = 0 := by omega
    subst hq
    clear hl h0
    go_enter Tryd.func116, Tryd.ntmps116
    go_wp2
    go_ret
    exact ⟨_, rfl, Kd.R_nil _ _ _ _ _, Below.refl _ _⟩
end Go.Proofs.YtokecnkjgoghhaaDoor.EGrow
end
section
/- The contracts of the library's functions and of the hand-walked ones, in the machine's words. No condition. -/
namespace Go.Proofs.YtokecnkjgoghhaaDoor.Ex
open Go Go.RowKit Go.Proofs.YtokecnkjgoghhaaDoor.Ab Go.Proofs.YtokecnkjgoghhaaDoorW.PrintWords
set_option linter.unusedVariables false

/-- What a contract says behind the call. -/
def Post (w : World) (St : Stb) (rvs : List RV) (e : Ending) (w' : World) : Prop :=
  ∃ (cs : List Value) (obs : List (Option Nat)) (St' : Stb), e = .returned (wrapV cs) ∧ Below w.heap.size w w' ∧ (∀ b o, St b o → St' b o) ∧ (∀ b o, St' b o → St b o ∨ w.heap.size ≤ b) ∧ StOK w' St' ∧
      RelRVs w' St' w.heap.size cs rvs obs ∧ (∀ (i j : Nat) (b : Nat), obs[i]? = some (some b) → obs[j]? = some (some b) → i = j)

theorem stok {w w' : World} {St : Stb} (h : StOK w St) (hb : Below w.heap.size w w') : StOK w' St := fun b o hs => Nat.lt_of_lt_of_le (h b o hs) hb.size

theorem post_one {w w' : World} {St : Stb} (hSt : StOK w St) {v : Value} {x : RV} {ob : Option Nat} (hb : Below w.heap.size w w') (h : RelRV w' St w.heap.size v x ob) : Post w St [x] (.returned v) w' :=
  ⟨[v], [ob], St, rfl, hb, fun _ _ h => h, fun _ _ h => .inl h, stok hSt hb, ⟨h, trivial⟩, fun i j b hi hj => by
    cases i with
    | zero => cases j with
      | zero => rfl
      | succ j => simp at hj
    | succ i => simp at hi⟩

theorem post_two {w w' : World} {St : Stb} (hSt : StOK w St) {v u : Value} {x y : A} (hb : Below w.heap.size w w') (h : RelA w' St noQ noBet v x) (k : RelA w' St noQ noBet u y) : Post w St [.d x, .d y] (.returned (.tuple #[v, u])) w' :=
  ⟨[v, u], [none, none], St, rfl, hb, fun _ _ h => h, fun _ _ h => .inl h, stok hSt hb, ⟨⟨rfl, h⟩, ⟨rfl, k⟩, trivial⟩, fun i j b hi hj => by
    rcases i with _ | _ | i <;> simp at hi⟩

theorem rv_own {w w' : World} {St : Stb} (hSt : StOK w St) {v : Value} {e : TypeId} {xs : List ByteArray} (h : w'.ownsRow w.heap.size e 1 v xs.length (xs.map Value.string)) : ∃ ob, RelRV w' St w.heap.size v (.own e .str xs) ob := by
  rcases h.2 with ⟨rfl, h0⟩ | ⟨g, cap, cur, rfl, hb, hh, hc, hc2, hs, ht⟩
  · exact ⟨none, rfl, List.length_eq_zero_iff.1 h0⟩
  · refine ⟨some g, cap, cur, rfl, hb, hh, hs, hc, hc2, fun i x hi => ?_, fun o ho => absurd (hSt g o ho) (by omega)⟩
    rw [Nat.mul_one] at ht
    have h1 : cur.toList[i]? = some (.string x) := by
      have hl : i < xs.length := (List.getElem?_eq_some_iff.1 hi).1
      have : (cur.toList.take xs.length)[i]? = some (.string x) := by rw [ht, List.getElem?_map, hi]; rfl
      rw [List.getElem?_take_of_lt hl] at this
      exact this
    show ((cur.toList.drop (i * 1)).take 1) = [.string x]
    obtain ⟨hlt, hx⟩ := List.getElem?_eq_some_iff.1 h1
    rw [Nat.mul_one, List.drop_eq_getElem_cons hlt, hx]
    rfl

theorem arg_str {w : World} {St Q : Stb} {c : Value} {s : ByteArray} (h : RelA w St Q noBet c (.c (.sc (.string s)))) : c = .string s := h.1

theorem args1 {w : World} {St Q : Stb} {a : Array Value} {x : A} (h : All2 (RelA w St Q noBet) a.toList [x]) : ∃ c, a = #[c] ∧ RelA w St Q noBet c x := by
  obtain ⟨l⟩ := a
  match l, h with
  | [c], h => exact ⟨c, rfl, h.1⟩

theorem args2 {w : World} {St Q : Stb} {a : Array Value} {x y : A} (h : All2 (RelA w St Q noBet) a.toList [x, y]) : ∃ c d, a = #[c, d] ∧ RelA w St Q noBet c x ∧ RelA w St Q noBet d y := by
  obtain ⟨l⟩ := a
  match l, h with
  | [c, d], h => exact ⟨c, d, rfl, h.1, h.2.1⟩

theorem ok_bool {f : FuncId} {s : ByteArray} {b : Bool} (h : ∀ w, EGlob.G w → Calls Tryd.prog f #[.string s] w fun e w' => e = .returned (.bool b) ∧ Below w.heap.size w w') :
    CallOK Tryd.prog EGlob.G f [.c (.sc (.string s))] [.d (inj .bool b)] := by
  intro w St Q a hG hSt hQ ha
  obtain ⟨c, rfl, hc⟩ := args1 ha
  rw [arg_str hc]
  refine (h w hG).mono ?_
  rintro e w' ⟨rfl, hb⟩
  exact post_one hSt hb (ob := none) ⟨rfl, rfl, rfl⟩

theorem name_ok (s : ByteArray) (hs : s.size ≤ 9223372036854775807) : CallOK Tryd.prog EGlob.G 131 [.c (.sc (.string s))] [.d (inj .bool (EText.rightB s))] :=
  ok_bool fun w _ => EText.name_Right_calls s w hs

theorem line_ok (s : ByteArray) (hs : s.size ≤ 9223372036854775807) : CallOK Tryd.prog EGlob.G 157 [.c (.sc (.string s))] [.d (inj .bool (EText.lineB s))] :=
  ok_bool fun w hG => EText.lines_Right_calls s w hs hG

theorem split_ok (s t : ByteArray) (hs : s.size < 4294967281) (ht : 1 ≤ t.size) : CallOK Tryd.prog EGlob.G 129 [.c (.sc (.string s)), .c (.sc (.string t))] [.own 9 .str (EText.splitL s t)] := by
  intro w St Q a hG hSt hQ ha
  obtain ⟨c, d, rfl, hc, hd⟩ := args2 ha
  rw [arg_str hc, arg_str hd]
  obtain ⟨m, hm⟩ := hG.2
  refine (Tryd.strings_Split s t m w hs hm ht).mono ?_
  rintro e w' ⟨rfl, rfl⟩
  have hle := Lib.countB_le t ht s.size s (Nat.le_refl _)
  have hlen : (EText.splitL s t).length = Lib.countB s t + 1 := Lib.splitB_all t ht 0 _ s rfl
  have hb : Below w.heap.size w (w.alloc (.cells ((Lib.splitB t 0 (Lib.countB s t) s).map Value.string).toArray 9)) := (Below.refl _ w).alloc (Nat.le_refl _) _
  have ho : (w.alloc (.cells ((Lib.splitB t 0 (Lib.countB s t) s).map Value.string).toArray 9)).ownsRow w.heap.size 9 1 (.slice (some ⟨w.heap.size, 0, none⟩) (Lib.countB s t + 1) (Lib.countB s t + 1)) (EText.splitL s t).length ((EText.splitL s t).map Value.string) := by
    have hs2 : ((EText.splitL s t).map Value.string).toArray.size = (Lib.countB s t + 1) * 1 := by simp [hlen]
    refine ⟨by simp, .inr ⟨w.heap.size, Lib.countB s t + 1, _, by rw [hlen], Nat.le_refl _, Go.Proofs.YtokecnkjgoghhaaDoorW.PrintWords.blk_new _ _, by omega, by unfold maxLen; omega, hs2, ?_⟩⟩
    show List.take _ ((EText.splitL s t).map Value.string) = _
    rw [List.take_of_length_le (by simp)]
  obtain ⟨ob, h⟩ := rv_own hSt ho
  exact post_one hSt hb h

theorem clone_ok (xs : List ByteArray) (hx : xs.length * 16 ≤ 140737488355328) : CallOK Tryd.prog EGlob.G 113 [.c (.sl .str xs)] [.own 9 .str xs] := by
  intro w St Q a hG hSt hQ ha
  obtain ⟨c, rfl, hc⟩ := args1 ha
  obtain ⟨c', hcc, hc⟩ := hc
  cases hcc
  rcases hc with ⟨rfl, h0⟩ | ⟨b, o, s, cap, rfl, hle, hel⟩
  · have h0 : xs = [] := h0
    subst h0
    refine (Tryd.slices_Clone_string_nil 0 0 w).mono ?_
    rintro e w' ⟨rfl, rfl⟩
    exact post_one hSt (Below.refl _ _) (ob := none) ⟨rfl, rfl⟩
  · cases xs with
    | nil =>
      refine (Tryd.slices_Clone_string_zero ⟨b, o, s⟩ cap w).mono ?_
      rintro e w' ⟨v, rfl, ho, _, hb⟩
      obtain ⟨ob, h⟩ := rv_own (xs := []) hSt ho
      exact post_one hSt hb h
    | cons x0 xs0 =>
      obtain rfl := (hel 0 x0 rfl).1
      refine (Tryd.slices_Clone_string b o (x0 :: xs0).length cap (x0 :: xs0) w (Nat.le_refl _) hx (fun j hj => ?_)).mono ?_
      · obtain ⟨_, l', hl', hat⟩ := hel j (x0 :: xs0)[j] (List.getElem?_eq_some_iff.2 ⟨hj, rfl⟩)
        have hl' : l' = [.string (x0 :: xs0)[j]] := hl'
        subst hl'
        have := (hat 0 (.string (x0 :: xs0)[j]) rfl).2
        rw [show Ty.w Ty.str = 1 from rfl, Nat.mul_one, Nat.add_zero] at this
        rw [this, List.getD_eq_getElem?_getD, List.getElem?_eq_some_iff.2 ⟨hj, rfl⟩]
        rfl
      · rintro e w' ⟨v, rfl, ho, _, hb⟩
        rw [List.take_length] at ho
        obtain ⟨ob, h⟩ := rv_own hSt ho
        exact post_one hSt hb h

theorem decode_ok (s : ByteArray) : CallOK Tryd.prog EGlob.G 177 [.c (.sc (.string s))] [.d (inj (.int .i32) (Lib.decodeGo s).1), .d (inj (.int .i64) (Lib.decodeGo s).2)] := by
  intro w St Q a hG hSt hQ ha
  obtain ⟨c, rfl, hc⟩ := args1 ha
  rw [arg_str hc]
  refine (Tryd.utf8_DecodeRuneInString s w hG.1).mono ?_
  rintro e w' ⟨rfl, hb⟩
  exact post_two hSt hb ⟨rfl, rfl⟩ ⟨rfl, rfl⟩

theorem grow_ok (n : Int) (h0 : 0 ≤ n) (hl : n.toNat * 16 < 140737488355328) : CallOK Tryd.prog EGlob.G 116 [.c .nl, .c (.sc (.int .i64 n))] [.own 9 .str []] := by
  intro w St Q a hG hSt hQ ha
  obtain ⟨c, d, rfl, hc, hd⟩ := args2 ha
  rw [show c = .slice none 0 0 from hc, show d = .int .i64 n from hd.1]
  refine (EGrow.grow_nil n w h0 hl).mono ?_
  rintro e w' ⟨v, rfl, hr, hb⟩
  obtain ⟨ob, h⟩ := rv_own (xs := []) hSt (Kd.own_of_R hr)
  exact post_one hSt hb h

theorem ext_ok : ∀ f g args rvs, ext f = some g → g args = some rvs → CallOK Tryd.prog EGlob.G f args rvs ∧ Enterable Tryd.prog f := by
  intro f g args rvs hf hg
  unfold ext at hf
  split at hf
  · cases hf
    refine ⟨?_, _, Tryd.func131, rfl, by decide⟩
    unfold str1 at hg
    split at hg
    · simp only at hg
      split at hg
      · rename_i h; cases hg; exact name_ok _ h
      · cases hg
    · cases hg
  · cases hf
    refine ⟨?_, _, Tryd.func157, rfl, by decide⟩
    unfold str1 at hg
    split at hg
    · simp only at hg
      split at hg
      · rename_i h; cases hg; exact line_ok _ h
      · cases hg
    · cases hg
  · cases hf
    refine ⟨?_, _, Tryd.func129, rfl, by decide⟩
    unfold str2 at hg
    split at hg
    · simp only at hg
      split at hg
      · rename_i h; cases hg; exact split_ok _ _ h.1 h.2
      · cases hg
    · cases hg
  · cases hf
    refine ⟨?_, _, Tryd.func113, rfl, by decide⟩
    unfold strs1 at hg
    split at hg
    · simp only at hg
      split at hg
      · rename_i h; cases hg; exact clone_ok _ h
      · cases hg
    · cases hg
  · cases hf
    refine ⟨?_, _, Tryd.func177, rfl, by decide⟩
    unfold str1 at hg
    split at hg
    · cases hg; exact decode_ok _
    · cases hg
  · cases hf
    refine ⟨?_, _, Tryd.func116, rfl, by decide⟩
    unfold nilInt at hg
    split at hg
    · simp only at hg
      split at hg
      · rename_i h; cases hg; exact grow_ok _ h.1 h.2
      · cases hg
    · cases hg
  · cases hf

end Go.Proofs.YtokecnkjgoghhaaDoor.Ex
end
section
/- The tables of this seat for the machine: its types, what its functions take and hand back, what is kept at their loops; and that the tables tell the truth of the program. No condition. -/
namespace Go.Proofs.YtokecnkjgoghhaaDoor.Tb
open Go Go.Proofs.YtokecnkjgoghhaaDoor.Ab
/-- api.Prim -/
abbrev ty24 : Ty := .pair (.int .i64) (.pair .str (.pair .str (.pair (.int .i64) (.pair (.sl .str) (.sl .str)))))
def ti : TypeId → Option TI
  | 3 => some ⟨.int .i64, 1, 8, .int .i64 0, some (.int .i64)⟩
  | 4 => some ⟨.bool, 1, 1, .bool false, some .bool⟩
  | 5 => some ⟨.int .u8, 1, 1, .int .u8 0, some (.int .u8)⟩
  | 9 => some ⟨.string, 1, 16, .string ⟨#[]⟩, some .str⟩
  | 21 => some ⟨.int .i32, 1, 4, .int .i32 0, some (.int .i32)⟩
  | 22 => some ⟨.slice 9, 1, 24, .slice none 0 0, some (.sl .str)⟩
  | 24 => some ⟨.struct [(0, 3), (1, 9), (2, 9), (3, 3), (4, 22), (5, 22)], 6, 96, .agg #[.int .i64 0, .string ⟨#[]⟩, .string ⟨#[]⟩, .int .i64 0, .slice none 0 0, .slice none 0 0], some ty24⟩
  | 26 => some ⟨.slice 24, 1, 24, .slice none 0 0, some (.sl ty24)⟩
  | 28 => some ⟨.int .i64, 1, 8, .int .i64 0, some (.int .i64)⟩
  | 84 => some ⟨.slice 3, 1, 24, .slice none 0 0, some (.sl (.int .i64))⟩
  | 109 => some ⟨.other, 1, 8, .nilFunc, none⟩
  | 135 => some ⟨.slice 22, 1, 24, .slice none 0 0, some (.sl (.sl .str))⟩
  | _ => none
def sg : FuncId → Option Sig
  | 3 => some ⟨[some ty24, some ty24, some ty24], [.d .bool]⟩
  | 4 => some ⟨[some ty24, some ty24], [.d .bool]⟩
  | 5 => some ⟨[some (.sl ty24)], [.d .bool]⟩
  | 10 => some ⟨[some (.sl ty24)], [.d .bool]⟩
  | 11 => some ⟨[], [.d .bool]⟩
  | 12 => some ⟨[some ty24, some ty24], [.d ty24, .d ty24, .d (.int .i64)]⟩
  | 13 => some ⟨[some (.sl ty24), some (.sl ty24)], [.d .bool]⟩
  | 14 => some ⟨[some (.sl ty24)], [.d .bool]⟩
  | 15 => some ⟨[], [.d .bool]⟩
  | 16 => some ⟨[some ty24, some ty24], [.own 24 ty24, .d .bool]⟩
  | 17 => some ⟨[some ty24, some ty24], [.own 24 ty24, .d .bool]⟩
  | 18 => some ⟨[some ty24, some ty24], [.d ty24, .d .bool]⟩
  | 19 => some ⟨[some ty24, some ty24], [.d ty24, .d .bool]⟩
  | 20 => some ⟨[some ty24, some ty24], [.d .bool]⟩
  | 21 => some ⟨[some ty24, some ty24], [.d .bool]⟩
  | 22 => some ⟨[some (.sl ty24)], [.own 24 ty24]⟩
  | 33 => some ⟨[some (.sl .str)], [.d .bool]⟩
  | 42 => some ⟨[some (.sl .str), some (.sl .str)], [.d .bool]⟩
  | 58 => some ⟨[some ty24, some ty24], [.d .bool]⟩
  | 59 => some ⟨[some ty24, some ty24], [.d .bool]⟩
  | 60 => some ⟨[some ty24], [.own 9 .str]⟩
  | 61 => some ⟨[some ty24], [.d (.int .i64)]⟩
  | 62 => some ⟨[some ty24, some ty24], [.d ty24, .d ty24, .d .bool]⟩
  | 63 => some ⟨[some ty24], [.d ty24]⟩
  | 64 => some ⟨[some ty24], [.d ty24]⟩
  | 65 => some ⟨[some ty24, some ty24], [.d .bool]⟩
  | 66 => some ⟨[some (.sl .str), some (.sl .str)], [.d .bool]⟩
  | 67 => some ⟨[some ty24], [.d (.int .i64)]⟩
  | 68 => some ⟨[some ty24], [.d ty24]⟩
  | 69 => some ⟨[some (.int .i64), some (.int .i64), none], [.d (.sl .str)]⟩
  | 70 => some ⟨[some (.sl (.sl .str))], [.own 9 .str]⟩
  | 71 => some ⟨[some (.int .i64), some (.int .i64)], [.d (.int .i64)]⟩
  | 72 => some ⟨[some (.int .i64), some (.int .i64)], [.d (.int .i64)]⟩
  | 79 => some ⟨[some .str], [.d .bool]⟩
  | 82 => some ⟨[some .str], [.d .bool]⟩
  | 94 => some ⟨[some (.sl .str)], [.d (.int .i64)]⟩
  | 98 => some ⟨[some .str], [.own 9 .str]⟩
  | 106 => some ⟨[some .str, none, none], [.d .bool]⟩
  | 107 => some ⟨[some (.sl .str), some .str], [.d .bool]⟩
  | 108 => some ⟨[some ty24, some .str], [.d .bool]⟩
  | 109 => some ⟨[some (.sl .str), none], [.d .bool]⟩
  | 110 => some ⟨[some .str, none], [.d .bool]⟩
  | 111 => some ⟨[some (.sl .str)], [.d (.int .i64)]⟩
  | 112 => some ⟨[some (.int .i64)], [.d (.int .i64)]⟩
  | 113 => some ⟨[some (.sl .str)], [.own 9 .str]⟩
  | 114 => some ⟨[some ty24, some ty24], [.d .bool]⟩
  | 115 => some ⟨[some (.sl .str), some (.sl .str)], [.d .bool]⟩
  | 116 => some ⟨[none, some (.int .i64)], [.own 9 .str]⟩
  | 129 => some ⟨[some .str, some .str], [.own 9 .str]⟩
  | 130 => some ⟨[some .str], [.d .bool]⟩
  | 131 => some ⟨[some .str], [.d .bool]⟩
  | 144 => some ⟨[some .str], [.d .bool]⟩
  | 147 => some ⟨[some .str], [.d .bool]⟩
  | 153 => some ⟨[some (.sl .str), some .str], [.d (.int .i64)]⟩
  | 154 => some ⟨[some .str, some .str], [.d .bool]⟩
  | 155 => some ⟨[some (.sl .str), none], [.d (.int .i64)]⟩
  | 156 => some ⟨[some .str], [.d .bool]⟩
  | 157 => some ⟨[some .str], [.d .bool]⟩
  | 158 => some ⟨[some (.int .i64), some (.int .i64), none], [.d (.int .i64)]⟩
  | 177 => some ⟨[some .str], [.d (.int .i32), .d (.int .i64)]⟩
  | 179 => some ⟨[some (.int .u8)], [.d .bool]⟩
  | 184 => some ⟨[some .str, some .str], [.d .bool]⟩
  | 214 => some ⟨[some .str, some .str], [.d .bool]⟩
  | _ => none
noncomputable def code (f : Func) : Code := match f.body with | some c => c | none => .skip
/-- rafter/rafterref01.Same -/
def n42 : Note := ⟨26, [.tmp 4], [.d .bool], [(4, [(0, .any), (1, .any), (5, .any)])], []⟩
/-- rafter/rafterref07.Same -/
def n13 : Note := ⟨95, [.tmp 4], [.d .bool], [(4, [(0, .any), (1, .any), (5, .any)])], []⟩
/-- rafter/rafterlaw03.Light -/
def n33 : Note := ⟨19, [.tmp 2], [.d .bool], [(2, [(0, .any), (3, .any)])], []⟩
/-- rafter/rafterlaw07.Light -/
def n10 : Note := ⟨47, [.tmp 2], [.d .bool], [(2, [(0, .any), (3, .any)])], []⟩
/-- rafter/rafterlaw09.light -/
def n14 : Note := ⟨18, [.tmp 2], [.d .bool], [(2, [(0, .any), (3, .any)])], []⟩
/-- slices.IndexFunc[[]string,string] -/
def n155 : Note := ⟨19, [.tmp 4], [.d (.int .i64)], [(2, [(0, .any), (1, .any), (7, .any), (8, .any)])], []⟩
/-- slices.ContainsFunc[[]string,string] -/
def n109 : Note := ⟨9, [.tmp 4], [.d .bool], [], []⟩
/-- rafter/path.Right$1 -/
def n130 : Note := ⟨6, [.tmp 2], [.d .bool], [], []⟩
/-- rafter/path.Right -/
def n82 : Note := ⟨21, [.tmp 2], [.d .bool], [], []⟩
/-- rafter/lines.Check$1 -/
def n156 : Note := ⟨6, [.tmp 2], [.d .bool], [], []⟩
/-- rafter/lines.Check -/
def n111 : Note := ⟨8, [.tmp 2], [.d (.int .i64)], [], []⟩
/-- rafter/prim.Check -/
def n61 : Note := ⟨99, [.tmp 2], [.d (.int .i64)], [], []⟩
/-- rafter/fuse.Touch -/
def n20 : Note := ⟨53, [.tmp 4], [.d .bool], [], []⟩
/-- slices.Equal[[]string,string] -/
def n115 : Note := ⟨26, [.tmp 4], [.d .bool], [(4, [(0, .any), (1, .any), (12, .any), (13, .any)])], []⟩
/-- rafter/lines.Same -/
def n66 : Note := ⟨8, [.tmp 4], [.d .bool], [], []⟩
/-- rafter/fuse.Hunks$1 -/
def n69 : Note := ⟨23, [.tmp 5], [.d (.sl .str)], [], []⟩
/-- slices.Concat[[]string,string] -/
def n70 : Note := ⟨36, [.tmp 2], [.own 9 .str], [(3, [(0, .any), (3, .any), (9, .any), (10, .any), (11, .any)]), (11, [(6, .own 9 .str), (25, .any), (26, .any), (27, .any)])], []⟩
/-- rafter/fuse.Hunks -/
def n18 : Note := ⟨103, [.cell 4 24, .tmp 5], [.d ty24, .d .bool], [], []⟩
/-- rafter/prim.other$1 -/
def n158 : Note := ⟨11, [.tmp 5], [.d (.int .i64)], [], []⟩
/-- rafter/prim.other -/
def n112 : Note := ⟨17, [.tmp 2], [.d (.int .i64)], [], []⟩
/-- rafter/prim.Invert -/
def n64 : Note := ⟨30, [.cell 2 24], [.d ty24], [], []⟩
/-- rafter/prim.Same -/
def n114 : Note := ⟨45, [.tmp 4], [.d .bool], [], []⟩
/-- rafter/fuse.undoes -/
def n65 : Note := ⟨24, [.tmp 4], [.d .bool], [], []⟩
/-- rafter/fuse.Pair -/
def n16 : Note := ⟨57, [.tmp 4, .tmp 5], [.own 24 ty24, .d .bool], [], []⟩
/-- rafter/fuse.All -/
def n22 : Note := ⟨53, [.tmp 2], [.own 24 ty24], [(3, [(3, .own 24 ty24), (9, .any), (10, .any), (11, .any)]), (6, [(3, .own 24 ty24), (6, .any), (9, .any), (10, .any), (11, .any)])], []⟩
/-- rafter/rafterlaw09.awake -/
def n15 : Note := ⟨50, [.tmp 0], [.d .bool], [], [(4, [(1, .sh), (2, .sh), (3, .sh), (4, .any)])]⟩
/-- rafter/rafterref02.letter -/
def n179 : Note := ⟨16, [.tmp 2], [.d .bool], [(3, [(0, .any), (3, .any), (4, .any)])], []⟩
/-- rafter/rafterref02.Right -/
def n147 : Note := ⟨31, [.tmp 2], [.d .bool], [(2, [(0, .any), (3, .any)])], []⟩
/-- rafter/rafterref05.Names -/
def n98 : Note := ⟨44, [.tmp 2], [.own 9 .str], [(6, [(0, .any), (3, .own 9 .str), (4, .any), (5, .any)])], []⟩
/-- rafter/rafterref05.Right -/
def n79 : Note := ⟨7, [.tmp 2], [.d .bool], [], []⟩
/-- rafter/rafterref03.Right -/
def n144 : Note := ⟨37, [.tmp 2], [.d .bool], [(4, [(0, .any), (3, .any)])], []⟩
/-- rafter/rafterref03.Check -/
def n94 : Note := ⟨19, [.tmp 2], [.d (.int .i64)], [(4, [(0, .any), (3, .any)])], []⟩
/-- rafter/rafterref07.Check -/
def n67 : Note := ⟨89, [.tmp 2], [.d (.int .i64)], [], []⟩
/-- rafter/rafterref09.Touch -/
def n21 : Note := ⟨50, [.tmp 4], [.d .bool], [], []⟩
/-- rafter/rafterref01.Low -/
def n71 : Note := ⟨10, [.tmp 4], [.d (.int .i64)], [], []⟩
/-- rafter/rafterref01.High -/
def n72 : Note := ⟨10, [.tmp 4], [.d (.int .i64)], [], []⟩
/-- rafter/rafterref09.Hunks -/
def n19 : Note := ⟨163, [.cell 4 24, .tmp 5], [.d ty24, .d .bool], [(8, [(2, .any), (3, .any), (4, .any), (6, .cells [(4, 9, .str), (5, 9, .str)]), (7, .any), (8, .any), (9, .any), (10, .any)])], [(13, [(2, .any), (3, .any), (4, .any), (6, .cells [(4, 9, .str), (5, 9, .str)]), (7, .any), (8, .any), (9, .any), (10, .any)]), (16, [(2, .any), (3, .any), (4, .any), (6, .cells [(4, 9, .str), (5, 9, .str)]), (7, .any), (8, .any), (9, .any), (10, .any)]), (17, [(2, .any), (3, .any), (4, .any), (6, .cells [(4, 9, .str), (5, 9, .str)]), (7, .any), (8, .any), (9, .any), (10, .any), (11, .any)]), (18, [(2, .any), (3, .any), (4, .any), (6, .cells [(4, 9, .str), (5, 9, .str)]), (7, .any), (8, .any), (9, .any), (10, .any), (11, .any), (12, .any)]), (20, [(2, .any), (3, .any), (4, .any), (6, .cells [(4, 9, .str), (5, 9, .str)]), (7, .any), (8, .any), (9, .any), (10, .any), (11, .any), (12, .any)]), (22, [(2, .any), (3, .any), (4, .any), (6, .cells [(4, 9, .str), (5, 9, .str)]), (7, .any), (8, .any), (9, .any), (10, .any), (11, .any), (12, .any)]), (9, [(2, .any), (3, .any), (4, .any), (6, .cells [(4, 9, .str), (5, 9, .str)]), (7, .any), (8, .any), (9, .any), (10, .any)])]⟩
/-- rafter/rafterref07.Invert -/
def n68 : Note := ⟨37, [.cell 2 24], [.d ty24], [], []⟩
/-- rafter/rafterref09.Pair -/
def n17 : Note := ⟨73, [.tmp 4, .tmp 5], [.own 24 ty24, .d .bool], [], []⟩
/-- rafter/rafterlaw09.FuseAll -/
def n5 : Note := ⟨64, [.tmp 2], [.d .bool], [(5, [(0, .any), (3, .own 24 ty24), (4, .any)]), (8, [(0, .any), (3, .own 24 ty24), (4, .any), (5, .any)])], []⟩
/-- rafter/rafterlaw09.FusePairs -/
def n4 : Note := ⟨75, [.tmp 4], [.d .bool], [], []⟩
/-- rafter/commute.Touches -/
def n60 : Note := ⟨17, [.tmp 2], [.own 9 .str], [], []⟩
/-- slices.Index[[]string,string] -/
def n153 : Note := ⟨19, [.tmp 4], [.d (.int .i64)], [(2, [(0, .any), (1, .any), (7, .any), (8, .any)])], []⟩
/-- slices.Contains[[]string,string] -/
def n107 : Note := ⟨9, [.tmp 4], [.d .bool], [], []⟩
/-- internal/stringslite.HasPrefix -/
def n214 : Note := ⟨18, [.tmp 4], [.d .bool], [], []⟩
/-- strings.HasPrefix -/
def n184 : Note := ⟨8, [.tmp 4], [.d .bool], [], []⟩
/-- rafter/path.Within -/
def n154 : Note := ⟨25, [.tmp 4], [.d .bool], [], []⟩
/-- rafter/commute.above -/
def n108 : Note := ⟨19, [.tmp 4], [.d .bool], [], []⟩
/-- rafter/commute.Apart$1 -/
def n106 : Note := ⟨13, [.tmp 4], [.d .bool], [], []⟩
/-- rafter/commute.Apart$2 -/
def n110 : Note := ⟨7, [.tmp 3], [.d .bool], [], []⟩
/-- rafter/commute.Apart -/
def n59 : Note := ⟨31, [.tmp 4], [.d .bool], [], []⟩
/-- rafter/commute.copied -/
def n63 : Note := ⟨6, [.cell 2 24], [.d ty24], [], []⟩
/-- rafter/commute.Shift -/
def n62 : Note := ⟨89, [.cell 4 24, .cell 5 24, .tmp 6], [.d ty24, .d ty24, .d .bool], [], []⟩
/-- rafter/commute.Pair -/
def n12 : Note := ⟨92, [.cell 4 24, .cell 5 24, .tmp 6], [.d ty24, .d ty24, .d (.int .i64)], [(2, [(2, .any), (3, .any), (4, .any), (5, .any), (17, .own 24 ty24), (18, .any), (19, .any)])], []⟩
/-- rafter/commute.Can -/
def n58 : Note := ⟨17, [.tmp 4], [.d .bool], [], []⟩
/-- rafter/rafterlaw08.awake -/
def n11 : Note := ⟨66, [.tmp 0], [.d .bool], [], []⟩
/-- rafter/rafterlaw08.CommuteThree -/
def n3 : Note := ⟨123, [.tmp 6], [.d .bool], [], []⟩
noncomputable def fns : FuncId → Option (Code × Note)
  | 42 => some (code Tryd.f42, n42)
  | 13 => some (code Tryd.f13, n13)
  | 33 => some (code Tryd.f33, n33)
  | 10 => some (code Tryd.f10, n10)
  | 14 => some (code Tryd.f14, n14)
  | 155 => some (code Tryd.f155, n155)
  | 109 => some (code Tryd.f109, n109)
  | 130 => some (code Tryd.f130, n130)
  | 82 => some (code Tryd.f82, n82)
  | 156 => some (code Tryd.f156, n156)
  | 111 => some (code Tryd.f111, n111)
  | 61 => some (code Tryd.f61, n61)
  | 20 => some (code Tryd.f20, n20)
  | 115 => some (code Tryd.f115, n115)
  | 66 => some (code Tryd.f66, n66)
  | 69 => some (code Tryd.f69, n69)
  | 70 => some (code Tryd.f70, n70)
  | 18 => some (code Tryd.f18, n18)
  | 158 => some (code Tryd.f158, n158)
  | 112 => some (code Tryd.f112, n112)
  | 64 => some (code Tryd.f64, n64)
  | 114 => some (code Tryd.f114, n114)
  | 65 => some (code Tryd.f65, n65)
  | 16 => some (code Tryd.f16, n16)
  | 22 => some (code Tryd.f22, n22)
  | 15 => some (code Tryd.f15, n15)
  | 179 => some (code Tryd.f179, n179)
  | 147 => some (code Tryd.f147, n147)
  | 98 => some (code Tryd.f98, n98)
  | 79 => some (code Tryd.f79, n79)
  | 144 => some (code Tryd.f144, n144)
  | 94 => some (code Tryd.f94, n94)
  | 67 => some (code Tryd.f67, n67)
  | 21 => some (code Tryd.f21, n21)
  | 71 => some (code Tryd.f71, n71)
  | 72 => some (code Tryd.f72, n72)
  | 19 => some (code Tryd.f19, n19)
  | 68 => some (code Tryd.f68, n68)
  | 17 => some (code Tryd.f17, n17)
  | 5 => some (code Tryd.f5, n5)
  | 4 => some (code Tryd.f4, n4)
  | 60 => some (code Tryd.f60, n60)
  | 153 => some (code Tryd.f153, n153)
  | 107 => some (code Tryd.f107, n107)
  | 214 => some (code Tryd.f214, n214)
  | 184 => some (code Tryd.f184, n184)
  | 154 => some (code Tryd.f154, n154)
  | 108 => some (code Tryd.f108, n108)
  | 106 => some (code Tryd.f106, n106)
  | 110 => some (code Tryd.f110, n110)
  | 59 => some (code Tryd.f59, n59)
  | 63 => some (code Tryd.f63, n63)
  | 62 => some (code Tryd.f62, n62)
  | 12 => some (code Tryd.f12, n12)
  | 58 => some (code Tryd.f58, n58)
  | 11 => some (code Tryd.f11, n11)
  | 3 => some (code Tryd.f3, n3)
  | _ => none
noncomputable def ext : FuncId → Option (List A → Option (List RV)) := Ex.ext
noncomputable def W0 : Wd := ⟨Tryd.prog, ti, sg, fns, ext⟩
/-- A call over the limit, its results as data. -/
noncomputable def cR (f : FuncId) (rts : List RT) (xs : List A) : Option (dens rts) := callT (envOf W0 (callW W0)) rts f xs
theorem ti_one {t : TypeId} {i : TI} (d : TypeDesc) (h1 : Tryd.prog.underlying t = some d) (h2 : (Tryd.prog.info? t).map (fun i => (i.size, i.bytes, i.zero)) = some (i.size, i.bytes, some i.zero)) (h3 : Dok d i.desc) : TIok Tryd.prog t i := by
  cases h : Tryd.prog.info? t with
  | none => rw [h] at h2; cases h2
  | some j =>
    rw [h] at h2
    simp only [Option.map_some, Option.some.injEq, Prod.mk.injEq] at h2
    exact ⟨d, j, h1, h, h2.1, h2.2.1, h2.2.2, h3⟩
theorem ti_ok : ∀ t i, ti t = some i → TIok Tryd.prog t i := by
  intro t i h
  unfold ti at h
  split at h
  · cases h; exact ti_one _ Tryd.underlying3 (by kernel_rfl) rfl
  · cases h; exact ti_one _ Tryd.underlying4 (by kernel_rfl) rfl
  · cases h; exact ti_one _ Tryd.underlying5 (by kernel_rfl) rfl
  · cases h; exact ti_one _ Tryd.underlying9 (by kernel_rfl) rfl
  · cases h; exact ti_one _ Tryd.underlying21 (by kernel_rfl) rfl
  · cases h; exact ti_one _ Tryd.underlying22 (by kernel_rfl) rfl
  · cases h; exact ti_one _ Tryd.underlying24 (by kernel_rfl) ⟨_, rfl, rfl⟩
  · cases h; exact ti_one _ Tryd.underlying26 (by kernel_rfl) rfl
  · cases h; exact ti_one _ Tryd.underlying28 (by kernel_rfl) rfl
  · cases h; exact ti_one _ Tryd.underlying84 (by kernel_rfl) rfl
  · cases h; exact ti_one _ Tryd.underlying109 (by kernel_rfl) trivial
  · cases h; exact ti_one _ Tryd.underlying135 (by kernel_rfl) rfl
  · cases h
theorem fns_ok : ∀ f c N, fns f = some (c, N) → ∃ fn, Tryd.prog.funcs[f]? = some fn ∧ fn.body = some c ∧ N.nt ≤ fn.ntmps ∧ fn.results.toList = N.res ∧ (fn.name == "runtime.NumGoroutine") = false := by
  intro f c N h
  unfold fns at h
  split at h
  · cases h; exact ⟨_, Tryd.func42, rfl, Nat.le_refl _, rfl, by decide⟩
  · cases h; exact ⟨_, Tryd.func13, rfl, Nat.le_refl _, rfl, by decide⟩
  · cases h; exact ⟨_, Tryd.func33, rfl, Nat.le_refl _, rfl, by decide⟩
  · cases h; exact ⟨_, Tryd.func10, rfl, Nat.le_refl _, rfl, by decide⟩
  · cases h; exact ⟨_, Tryd.func14, rfl, Nat.le_refl _, rfl, by decide⟩
  · cases h; exact ⟨_, Tryd.func155, rfl, Nat.le_refl _, rfl, by decide⟩
  · cases h; exact ⟨_, Tryd.func109, rfl, Nat.le_refl _, rfl, by decide⟩
  · cases h; exact ⟨_, Tryd.func130, rfl, Nat.le_refl _, rfl, by decide⟩
  · cases h; exact ⟨_, Tryd.func82, rfl, Nat.le_refl _, rfl, by decide⟩
  · cases h; exact ⟨_, Tryd.func156, rfl, Nat.le_refl _, rfl, by decide⟩
  · cases h; exact ⟨_, Tryd.func111, rfl, Nat.le_refl _, rfl, by decide⟩
  · cases h; exact ⟨_, Tryd.func61, rfl, Nat.le_refl _, rfl, by decide⟩
  · cases h; exact ⟨_, Tryd.func20, rfl, Nat.le_refl _, rfl, by decide⟩
  · cases h; exact ⟨_, Tryd.func115, rfl, Nat.le_refl _, rfl, by decide⟩
  · cases h; exact ⟨_, Tryd.func66, rfl, Nat.le_refl _, rfl, by decide⟩
  · cases h; exact ⟨_, Tryd.func69, rfl, Nat.le_refl _, rfl, by decide⟩
  · cases h; exact ⟨_, Tryd.func70, rfl, Nat.le_refl _, rfl, by decide⟩
  · cases h; exact ⟨_, Tryd.func18, rfl, Nat.le_refl _, rfl, by decide⟩
  · cases h; exact ⟨_, Tryd.func158, rfl, Nat.le_refl _, rfl, by decide⟩
  · cases h; exact ⟨_, Tryd.func112, rfl, Nat.le_refl _, rfl, by decide⟩
  · cases h; exact ⟨_, Tryd.func64, rfl, Nat.le_refl _, rfl, by decide⟩
  · cases h; exact ⟨_, Tryd.func114, rfl, Nat.le_refl _, rfl, by decide⟩
  · cases h; exact ⟨_, Tryd.func65, rfl, Nat.le_refl _, rfl, by decide⟩
  · cases h; exact ⟨_, Tryd.func16, rfl, Nat.le_refl _, rfl, by decide⟩
  · cases h; exact ⟨_, Tryd.func22, rfl, Nat.le_refl _, rfl, by decide⟩
  · cases h; exact ⟨_, Tryd.func15, rfl, Nat.le_refl _, rfl, by decide⟩
  · cases h; exact ⟨_, Tryd.func179, rfl, Nat.le_refl _, rfl, by decide⟩
  · cases h; exact ⟨_, Tryd.func147, rfl, Nat.le_refl _, rfl, by decide⟩
  · cases h; exact ⟨_, Tryd.func98, rfl, Nat.le_refl _, rfl, by decide⟩
  · cases h; exact ⟨_, Tryd.func79, rfl, Nat.le_refl _, rfl, by decide⟩
  · cases h; exact ⟨_, Tryd.func144, rfl, Nat.le_refl _, rfl, by decide⟩
  · cases h; exact ⟨_, Tryd.func94, rfl, Nat.le_refl _, rfl, by decide⟩
  · cases h; exact ⟨_, Tryd.func67, rfl, Nat.le_refl _, rfl, by decide⟩
  · cases h; exact ⟨_, Tryd.func21, rfl, Nat.le_refl _, rfl, by decide⟩
  · cases h; exact ⟨_, Tryd.func71, rfl, Nat.le_refl _, rfl, by decide⟩
  · cases h; exact ⟨_, Tryd.func72, rfl, Nat.le_refl _, rfl, by decide⟩
  · cases h; exact ⟨_, Tryd.func19, rfl, Nat.le_refl _, rfl, by decide⟩
  · cases h; exact ⟨_, Tryd.func68, rfl, Nat.le_refl _, rfl, by decide⟩
  · cases h; exact ⟨_, Tryd.func17, rfl, Nat.le_refl _, rfl, by decide⟩
  · cases h; exact ⟨_, Tryd.func5, rfl, Nat.le_refl _, rfl, by decide⟩
  · cases h; exact ⟨_, Tryd.func4, rfl, Nat.le_refl _, rfl, by decide⟩
  · cases h; exact ⟨_, Tryd.func60, rfl, Nat.le_refl _, rfl, by decide⟩
  · cases h; exact ⟨_, Tryd.func153, rfl, Nat.le_refl _, rfl, by decide⟩
  · cases h; exact ⟨_, Tryd.func107, rfl, Nat.le_refl _, rfl, by decide⟩
  · cases h; exact ⟨_, Tryd.func214, rfl, Nat.le_refl _, rfl, by decide⟩
  · cases h; exact ⟨_, Tryd.func184, rfl, Nat.le_refl _, rfl, by decide⟩
  · cases h; exact ⟨_, Tryd.func154, rfl, Nat.le_refl _, rfl, by decide⟩
  · cases h; exact ⟨_, Tryd.func108, rfl, Nat.le_refl _, rfl, by decide⟩
  · cases h; exact ⟨_, Tryd.func106, rfl, Nat.le_refl _, rfl, by decide⟩
  · cases h; exact ⟨_, Tryd.func110, rfl, Nat.le_refl _, rfl, by decide⟩
  · cases h; exact ⟨_, Tryd.func59, rfl, Nat.le_refl _, rfl, by decide⟩
  · cases h; exact ⟨_, Tryd.func63, rfl, Nat.le_refl _, rfl, by decide⟩
  · cases h; exact ⟨_, Tryd.func62, rfl, Nat.le_refl _, rfl, by decide⟩
  · cases h; exact ⟨_, Tryd.func12, rfl, Nat.le_refl _, rfl, by decide⟩
  · cases h; exact ⟨_, Tryd.func58, rfl, Nat.le_refl _, rfl, by decide⟩
  · cases h; exact ⟨_, Tryd.func11, rfl, Nat.le_refl _, rfl, by decide⟩
  · cases h; exact ⟨_, Tryd.func3, rfl, Nat.le_refl _, rfl, by decide⟩
  · cases h
theorem w_ok : WdOK W0 EGlob.G := ⟨ti_ok, fns_ok, Ex.ext_ok, by kernel_rfl, fun _ _ h hb => EGlob.G_below h hb⟩
end Go.Proofs.YtokecnkjgoghhaaDoor.Tb
end
section
/- What each function comes to on data: printed equations. No condition. -/
set_option linter.unusedVariables false
set_option maxRecDepth 100000
namespace Go.Proofs.YtokecnkjgoghhaaDoor.Tb
open Go Go.Proofs.YtokecnkjgoghhaaDoor.Ab
noncomputable def td33_2 : List Item := (findT (code Tryd.f33) [] 2).getD []
noncomputable def l33_2 (x0 : List ByteArray) (x1 : Int) : Option (List RV) := cutW W0 n33 td33_2 { fr := [((0 : Nat), F.a (A.c (C.sl Ty.str x0))), ((3 : Nat), F.a (A.c (C.sc (Go.Value.int Go.IntKind.i64 x1))))], mem := [], nx := (0 : Nat) }
theorem e33 (a0 : List ByteArray) : callG W0 (callW W0) (cutW W0) 33 [inj (Ty.sl Ty.str) a0] = l33_2 a0 (0 : Int) := by kernel_rfl
theorem q33_2 (x0 : List ByteArray) (x1 : Int) : cutG W0 (callW W0) (cutW W0) n33 td33_2 { fr := [((0 : Nat), F.a (A.c (C.sl Ty.str x0))), ((3 : Nat), F.a (A.c (C.sc (Go.Value.int Go.IntKind.i64 x1))))], mem := [], nx := (0 : Nat) } = ifs (decide (x1 < (↑(List.length x0) : Int)) = true) (ifs ((0 : Int) ≤ x1) (Option.bind x0[Int.toNat x1]? fun r => ifs (decide ((↑(ByteArray.size r) : Int) > (300 : Int)) = true) (some (injRs [RT.d Ty.bool] false)) (l33_2 x0 (Go.IntKind.wrap Go.IntKind.i64 (x1 + (1 : Int))))) none) (some (injRs [RT.d Ty.bool] (decide ((↑(List.length x0) : Int) ≤ (60 : Int))))) := by kernel_rfl
noncomputable def td10_2 : List Item := (findT (code Tryd.f10) [] 2).getD []
noncomputable def l10_2 (x0 : List (Int × ByteArray × ByteArray × Int × List ByteArray × List ByteArray)) (x1 : Int) : Option (List RV) := cutW W0 n10 td10_2 { fr := [((0 : Nat), F.a (A.c (C.sl ty24 x0))), ((3 : Nat), F.a (A.c (C.sc (Go.Value.int Go.IntKind.i64 x1))))], mem := [], nx := (0 : Nat) }
theorem e10 (a0 : List (Int × ByteArray × ByteArray × Int × List ByteArray × List ByteArray)) : callG W0 (callW W0) (cutW W0) 10 [inj (Ty.sl ty24) a0] = l10_2 a0 (0 : Int) := by kernel_rfl
theorem q10_2 (x0 : List (Int × ByteArray × ByteArray × Int × List ByteArray × List ByteArray)) (x1 : Int) : cutG W0 (callW W0) (cutW W0) n10 td10_2 { fr := [((0 : Nat), F.a (A.c (C.sl ty24 x0))), ((3 : Nat), F.a (A.c (C.sc (Go.Value.int Go.IntKind.i64 x1))))], mem := [], nx := (0 : Nat) } = ifs (decide (x1 < (↑(List.length x0) : Int)) = true) (ifs ((0 : Int) ≤ x1) (Option.bind x0[Int.toNat x1]? fun r => ifs (decide ((↑(ByteArray.size r.snd.fst) : Int) > (300 : Int)) = false) (ifs ((0 : Int) ≤ x1) (Option.bind x0[Int.toNat x1]? fun r => ifs (decide ((↑(ByteArray.size r.snd.snd.fst) : Int) > (300 : Int)) = false) (ifs ((0 : Int) ≤ x1) (Option.bind x0[Int.toNat x1]? fun r => Option.bind (cR (nat_lit 33) [RT.d Ty.bool] [inj (Ty.sl Ty.str) r.snd.snd.snd.snd.fst]) fun r => ifs ((!r) = false) (ifs ((0 : Int) ≤ x1) (Option.bind x0[Int.toNat x1]? fun r => Option.bind (cR (nat_lit 33) [RT.d Ty.bool] [inj (Ty.sl Ty.str) r.snd.snd.snd.snd.snd]) fun r => ifs ((!r) = true) (some (injRs [RT.d Ty.bool] false)) (l10_2 x0 (Go.IntKind.wrap Go.IntKind.i64 (x1 + (1 : Int))))) none) (some (injRs [RT.d Ty.bool] false))) none) (some (injRs [RT.d Ty.bool] false))) none) (some (injRs [RT.d Ty.bool] false))) none) (some (injRs [RT.d Ty.bool] (decide ((↑(List.length x0) : Int) ≤ (40 : Int))))) := by kernel_rfl
noncomputable def td14_2 : List Item := (findT (code Tryd.f14) [] 2).getD []
noncomputable def l14_2 (x0 : List (Int × ByteArray × ByteArray × Int × List ByteArray × List ByteArray)) (x1 : Int) : Option (List RV) := cutW W0 n14 td14_2 { fr := [((0 : Nat), F.a (A.c (C.sl ty24 x0))), ((3 : Nat), F.a (A.c (C.sc (Go.Value.int Go.IntKind.i64 x1))))], mem := [], nx := (0 : Nat) }
theorem e14 (a0 : List (Int × ByteArray × ByteArray × Int × List ByteArray × List ByteArray)) : callG W0 (callW W0) (cutW W0) 14 [inj (Ty.sl ty24) a0] = l14_2 a0 (0 : Int) := by kernel_rfl
theorem q14_2 (x0 : List (Int × ByteArray × ByteArray × Int × List ByteArray × List ByteArray)) (x1 : Int) : cutG W0 (callW W0) (cutW W0) n14 td14_2 { fr := [((0 : Nat), F.a (A.c (C.sl ty24 x0))), ((3 : Nat), F.a (A.c (C.sc (Go.Value.int Go.IntKind.i64 x1))))], mem := [], nx := (0 : Nat) } = ifs (decide (x1 < (↑(List.length x0) : Int)) = true) (ifs ((0 : Int) ≤ x1) (Option.bind x0[Int.toNat x1]? fun r => ifs (decide (r.snd.snd.snd.fst > (1099511627776 : Int)) = true) (some (injRs [RT.d Ty.bool] false)) (l14_2 x0 (Go.IntKind.wrap Go.IntKind.i64 (x1 + (1 : Int))))) none) (Option.bind (cR (nat_lit 10) [RT.d Ty.bool] [inj (Ty.sl ty24) x0]) fun r => some (injRs [RT.d Ty.bool] r)) := by kernel_rfl
noncomputable def td42_4 : List Item := (findT (code Tryd.f42) [] 4).getD []
noncomputable def l42_4 (x0 : List ByteArray) (x1 : List ByteArray) (x2 : Int) : Option (List RV) := cutW W0 n42 td42_4 { fr := [((0 : Nat), F.a (A.c (C.sl Ty.str x0))), ((1 : Nat), F.a (A.c (C.sl Ty.str x1))), ((5 : Nat), F.a (A.c (C.sc (Go.Value.int Go.IntKind.i64 x2))))], mem := [], nx := (0 : Nat) }
theorem e42 (a0 : List ByteArray) (a1 : List ByteArray) : callG W0 (callW W0) (cutW W0) 42 [inj (Ty.sl Ty.str) a0, inj (Ty.sl Ty.str) a1] = ifs (((↑(List.length a0) : Int) != (↑(List.length a1) : Int)) = true) (some (injRs [RT.d Ty.bool] false)) (l42_4 a0 a1 (0 : Int)) := by kernel_rfl
theorem q42_4 (x0 : List ByteArray) (x1 : List ByteArray) (x2 : Int) : cutG W0 (callW W0) (cutW W0) n42 td42_4 { fr := [((0 : Nat), F.a (A.c (C.sl Ty.str x0))), ((1 : Nat), F.a (A.c (C.sl Ty.str x1))), ((5 : Nat), F.a (A.c (C.sc (Go.Value.int Go.IntKind.i64 x2))))], mem := [], nx := (0 : Nat) } = ifs (decide (x2 < (↑(List.length x0) : Int)) = true) (ifs ((0 : Int) ≤ x2) (Option.bind x0[Int.toNat x2]? fun r => ifs ((0 : Int) ≤ x2) (Option.bind x1[Int.toNat x2]? fun r_1 => ifs ((!ByteArray.toList r == ByteArray.toList r_1) = true) (some (injRs [RT.d Ty.bool] false)) (l42_4 x0 x1 (Go.IntKind.wrap Go.IntKind.i64 (x2 + (1 : Int))))) none) none) (some (injRs [RT.d Ty.bool] true)) := by kernel_rfl
noncomputable def td13_4 : List Item := (findT (code Tryd.f13) [] 4).getD []
noncomputable def l13_4 (x0 : List (Int × ByteArray × ByteArray × Int × List ByteArray × List ByteArray)) (x1 : List (Int × ByteArray × ByteArray × Int × List ByteArray × List ByteArray)) (x2 : Int) : Option (List RV) := cutW W0 n13 td13_4 { fr := [((0 : Nat), F.a (A.c (C.sl ty24 x0))), ((1 : Nat), F.a (A.c (C.sl ty24 x1))), ((5 : Nat), F.a (A.c (C.sc (Go.Value.int Go.IntKind.i64 x2))))], mem := [], nx := (0 : Nat) }
theorem e13 (a0 : List (Int × ByteArray × ByteArray × Int × List ByteArray × List ByteArray)) (a1 : List (Int × ByteArray × ByteArray × Int × List ByteArray × List ByteArray)) : callG W0 (callW W0) (cutW W0) 13 [inj (Ty.sl ty24) a0, inj (Ty.sl ty24) a1] = ifs (((↑(List.length a0) : Int) != (↑(List.length a1) : Int)) = true) (some (injRs [RT.d Ty.bool] false)) (l13_4 a0 a1 (0 : Int)) := by kernel_rfl
theorem q13_4 (x0 : List (Int × ByteArray × ByteArray × Int × List ByteArray × List ByteArray)) (x1 : List (Int × ByteArray × ByteArray × Int × List ByteArray × List ByteArray)) (x2 : Int) : cutG W0 (callW W0) (cutW W0) n13 td13_4 { fr := [((0 : Nat), F.a (A.c (C.sl ty24 x0))), ((1 : Nat), F.a (A.c (C.sl ty24 x1))), ((5 : Nat), F.a (A.c (C.sc (Go.Value.int Go.IntKind.i64 x2))))], mem := [], nx := (0 : Nat) } = ifs (decide (x2 < (↑(List.length x0) : Int)) = true) (ifs ((0 : Int) ≤ x2) (Option.bind x0[Int.toNat x2]? fun r => ifs ((0 : Int) ≤ x2) (Option.bind x1[Int.toNat x2]? fun r_1 => ifs ((r.fst != r_1.fst) = false) (ifs ((0 : Int) ≤ x2) (Option.bind x0[Int.toNat x2]? fun r => ifs ((0 : Int) ≤ x2) (Option.bind x1[Int.toNat x2]? fun r_2 => ifs ((!ByteArray.toList r.snd.fst == ByteArray.toList r_2.snd.fst) = false) (ifs ((0 : Int) ≤ x2) (Option.bind x0[Int.toNat x2]? fun r => ifs ((0 : Int) ≤ x2) (Option.bind x1[Int.toNat x2]? fun r_3 => ifs ((!ByteArray.toList r.snd.snd.fst == ByteArray.toList r_3.snd.snd.fst) = false) (ifs ((0 : Int) ≤ x2) (Option.bind x0[Int.toNat x2]? fun r => ifs ((0 : Int) ≤ x2) (Option.bind x1[Int.toNat x2]? fun r_4 => ifs ((r.snd.snd.snd.fst != r_4.snd.snd.snd.fst) = false) (ifs ((0 : Int) ≤ x2) (Option.bind x0[Int.toNat x2]? fun r => ifs ((0 : Int) ≤ x2) (Option.bind x1[Int.toNat x2]? fun r_5 => Option.bind (cR (nat_lit 42) [RT.d Ty.bool] [inj (Ty.sl Ty.str) r.snd.snd.snd.snd.fst, inj (Ty.sl Ty.str) r_5.snd.snd.snd.snd.fst]) fun r => ifs ((!r) = false) (ifs ((0 : Int) ≤ x2) (Option.bind x0[Int.toNat x2]? fun r => ifs ((0 : Int) ≤ x2) (Option.bind x1[Int.toNat x2]? fun r_6 => Option.bind (cR (nat_lit 42) [RT.d Ty.bool] [inj (Ty.sl Ty.str) r.snd.snd.snd.snd.snd, inj (Ty.sl Ty.str) r_6.snd.snd.snd.snd.snd]) fun r => ifs ((!r) = true) (some (injRs [RT.d Ty.bool] false)) (l13_4 x0 x1 (Go.IntKind.wrap Go.IntKind.i64 (x2 + (1 : Int))))) none) none) (some (injRs [RT.d Ty.bool] false))) none) none) (some (injRs [RT.d Ty.bool] false))) none) none) (some (injRs [RT.d Ty.bool] false))) none) none) (some (injRs [RT.d Ty.bool] false))) none) none) (some (injRs [RT.d Ty.bool] false))) none) none) (some (injRs [RT.d Ty.bool] true)) := by kernel_rfl
noncomputable def td115_4 : List Item := (findT (code Tryd.f115) [] 4).getD []
noncomputable def l115_4 (x0 : List ByteArray) (x1 : List ByteArray) (x2 : Int) (x3 : Int) : Option (List RV) := cutW W0 n115 td115_4 { fr := [((0 : Nat), F.a (A.c (C.sl Ty.str x0))), ((1 : Nat), F.a (A.c (C.sl Ty.str x1))), ((12 : Nat), F.a (A.c (C.sc (Go.Value.int Go.IntKind.i64 x2)))), ((13 : Nat), F.a (A.c (C.sc (Go.Value.int Go.IntKind.i64 x3))))], mem := [], nx := (0 : Nat) }
theorem e115 (a0 : List ByteArray) (a1 : List ByteArray) : callG W0 (callW W0) (cutW W0) 115 [inj (Ty.sl Ty.str) a0, inj (Ty.sl Ty.str) a1] = ifs (((↑(List.length a0) : Int) != (↑(List.length a1) : Int)) = true) (some (injRs [RT.d Ty.bool] false)) (l115_4 a0 a1 (↑(List.length a0) : Int) (0 : Int)) := by kernel_rfl
theorem q115_4 (x0 : List ByteArray) (x1 : List ByteArray) (x2 : Int) (x3 : Int) : cutG W0 (callW W0) (cutW W0) n115 td115_4 { fr := [((0 : Nat), F.a (A.c (C.sl Ty.str x0))), ((1 : Nat), F.a (A.c (C.sl Ty.str x1))), ((12 : Nat), F.a (A.c (C.sc (Go.Value.int Go.IntKind.i64 x2)))), ((13 : Nat), F.a (A.c (C.sc (Go.Value.int Go.IntKind.i64 x3))))], mem := [], nx := (0 : Nat) } = ifs (decide (x3 < x2) = true) (ifs ((0 : Int) ≤ x3) (Option.bind x0[Int.toNat x3]? fun r => ifs ((0 : Int) ≤ x3) (Option.bind x1[Int.toNat x3]? fun r_1 => ifs ((!ByteArray.toList r == ByteArray.toList r_1) = true) (some (injRs [RT.d Ty.bool] false)) (l115_4 x0 x1 x2 (Go.IntKind.wrap Go.IntKind.i64 (x3 + (1 : Int))))) none) none) (some (injRs [RT.d Ty.bool] true)) := by kernel_rfl
theorem e66 (a0 : List ByteArray) (a1 : List ByteArray) : callG W0 (callW W0) (cutW W0) 66 [inj (Ty.sl Ty.str) a0, inj (Ty.sl Ty.str) a1] = Option.bind (cR (nat_lit 115) [RT.d Ty.bool] [inj (Ty.sl Ty.str) a0, inj (Ty.sl Ty.str) a1]) fun r => some (injRs [RT.d Ty.bool] r) := by kernel_rfl
theorem e156 (a0 : ByteArray) : callG W0 (callW W0) (cutW W0) 156 [inj Ty.str a0] = Option.bind (cR (nat_lit 157) [RT.d Ty.bool] [inj Ty.str a0]) fun r => some (injRs [RT.d Ty.bool] !r) := by kernel_rfl
theorem e130 (a0 : ByteArray) : callG W0 (callW W0) (cutW W0) 130 [inj Ty.str a0] = Option.bind (cR (nat_lit 131) [RT.d Ty.bool] [inj Ty.str a0]) fun r => some (injRs [RT.d Ty.bool] !r) := by kernel_rfl
noncomputable def td155a_2 : List Item := (findT (code Tryd.f155) [] 2).getD []
noncomputable def l155a_2 (x0 : List ByteArray) (x1 : Int) (x2 : Int) : Option (List RV) := cutW W0 n155 td155a_2 { fr := [((0 : Nat), F.a (A.c (C.sl Ty.str x0))), ((1 : Nat), F.a (A.c (C.cl (156 : Nat) []))), ((7 : Nat), F.a (A.c (C.sc (Go.Value.int Go.IntKind.i64 x1)))), ((8 : Nat), F.a (A.c (C.sc (Go.Value.int Go.IntKind.i64 x2))))], mem := [], nx := (0 : Nat) }
theorem e155a (a0 : List ByteArray) : callG W0 (callW W0) (cutW W0) 155 [inj (Ty.sl Ty.str) a0, A.c (C.cl (156 : Nat) [])] = l155a_2 a0 (↑(List.length a0) : Int) (0 : Int) := by kernel_rfl
theorem q155a_2 (x0 : List ByteArray) (x1 : Int) (x2 : Int) : cutG W0 (callW W0) (cutW W0) n155 td155a_2 { fr := [((0 : Nat), F.a (A.c (C.sl Ty.str x0))), ((1 : Nat), F.a (A.c (C.cl (156 : Nat) []))), ((7 : Nat), F.a (A.c (C.sc (Go.Value.int Go.IntKind.i64 x1)))), ((8 : Nat), F.a (A.c (C.sc (Go.Value.int Go.IntKind.i64 x2))))], mem := [], nx := (0 : Nat) } = ifs (decide (x2 < x1) = true) (ifs ((0 : Int) ≤ x2) (Option.bind x0[Int.toNat x2]? fun r => Option.bind (cR (nat_lit 156) [RT.d Ty.bool] [inj Ty.str r]) fun r => ifs (r = true) (some (injRs [RT.d (Ty.int Go.IntKind.i64)] x2)) (l155a_2 x0 x1 (Go.IntKind.wrap Go.IntKind.i64 (x2 + (1 : Int))))) none) (some (injRs [RT.d (Ty.int Go.IntKind.i64)] (-1 : Int))) := by kernel_rfl
theorem e109a (a0 : List ByteArray) : callG W0 (callW W0) (cutW W0) 109 [inj (Ty.sl Ty.str) a0, A.c (C.cl (156 : Nat) [])] = Option.bind (cR (nat_lit 155) [RT.d (Ty.int Go.IntKind.i64)] [inj (Ty.sl Ty.str) a0, A.c (C.cl (156 : Nat) [])]) fun r => some (injRs [RT.d Ty.bool] (decide (r ≥ (0 : Int)))) := by kernel_rfl
noncomputable def td155b_2 : List Item := (findT (code Tryd.f155) [] 2).getD []
noncomputable def l155b_2 (x0 : List ByteArray) (x1 : Int) (x2 : Int) : Option (List RV) := cutW W0 n155 td155b_2 { fr := [((0 : Nat), F.a (A.c (C.sl Ty.str x0))), ((1 : Nat), F.a (A.c (C.cl (130 : Nat) []))), ((7 : Nat), F.a (A.c (C.sc (Go.Value.int Go.IntKind.i64 x1)))), ((8 : Nat), F.a (A.c (C.sc (Go.Value.int Go.IntKind.i64 x2))))], mem := [], nx := (0 : Nat) }
theorem e155b (a0 : List ByteArray) : callG W0 (callW W0) (cutW W0) 155 [inj (Ty.sl Ty.str) a0, A.c (C.cl (130 : Nat) [])] = l155b_2 a0 (↑(List.length a0) : Int) (0 : Int) := by kernel_rfl
theorem q155b_2 (x0 : List ByteArray) (x1 : Int) (x2 : Int) : cutG W0 (callW W0) (cutW W0) n155 td155b_2 { fr := [((0 : Nat), F.a (A.c (C.sl Ty.str x0))), ((1 : Nat), F.a (A.c (C.cl (130 : Nat) []))), ((7 : Nat), F.a (A.c (C.sc (Go.Value.int Go.IntKind.i64 x1)))), ((8 : Nat), F.a (A.c (C.sc (Go.Value.int Go.IntKind.i64 x2))))], mem := [], nx := (0 : Nat) } = ifs (decide (x2 < x1) = true) (ifs ((0 : Int) ≤ x2) (Option.bind x0[Int.toNat x2]? fun r => Option.bind (cR (nat_lit 130) [RT.d Ty.bool] [inj Ty.str r]) fun r => ifs (r = true) (some (injRs [RT.d (Ty.int Go.IntKind.i64)] x2)) (l155b_2 x0 x1 (Go.IntKind.wrap Go.IntKind.i64 (x2 + (1 : Int))))) none) (some (injRs [RT.d (Ty.int Go.IntKind.i64)] (-1 : Int))) := by kernel_rfl
theorem e109b (a0 : List ByteArray) : callG W0 (callW W0) (cutW W0) 109 [inj (Ty.sl Ty.str) a0, A.c (C.cl (130 : Nat) [])] = Option.bind (cR (nat_lit 155) [RT.d (Ty.int Go.IntKind.i64)] [inj (Ty.sl Ty.str) a0, A.c (C.cl (130 : Nat) [])]) fun r => some (injRs [RT.d Ty.bool] (decide (r ≥ (0 : Int)))) := by kernel_rfl
theorem e82 (a0 : ByteArray) : callG W0 (callW W0) (cutW W0) 82 [inj Ty.str a0] = Option.bind (cR (nat_lit 129) [RT.own (9 : Go.TypeId) Ty.str] [inj Ty.str a0, inj Ty.str { data := #[(47 : UInt8)] }]) fun r => ifs (decide ((↑(ByteArray.size a0) : Int) ≤ (200 : Int)) = true) (ifs (decide ((↑(List.length r) : Int) ≤ (16 : Int)) = true) (Option.bind (cR (nat_lit 109) [RT.d Ty.bool] [inj (Ty.sl Ty.str) (List.take (List.length r) r), A.c (C.cl (130 : Nat) [])]) fun r => some (injRs [RT.d Ty.bool] !r)) (some (injRs [RT.d Ty.bool] false))) (some (injRs [RT.d Ty.bool] false)) := by kernel_rfl
theorem e111 (a0 : List ByteArray) : callG W0 (callW W0) (cutW W0) 111 [inj (Ty.sl Ty.str) a0] = ifs (decide ((↑(List.length a0) : Int) > (2000 : Int)) = true) (some (injRs [RT.d (Ty.int Go.IntKind.i64)] (4 : Int))) (Option.bind (cR (nat_lit 109) [RT.d Ty.bool] [inj (Ty.sl Ty.str) a0, A.c (C.cl (156 : Nat) [])]) fun r => ifs (r = true) (some (injRs [RT.d (Ty.int Go.IntKind.i64)] (6 : Int))) (some (injRs [RT.d (Ty.int Go.IntKind.i64)] (0 : Int)))) := by kernel_rfl
theorem e61 (a0 : Int × ByteArray × ByteArray × Int × List ByteArray × List ByteArray) : callG W0 (callW W0) (cutW W0) 61 [inj ty24 a0] = ifs ((a0.snd.snd.snd.fst == (0 : Int)) = true) (ifs (decide (a0.fst < (1 : Int)) = false) (ifs (decide (a0.fst > (6 : Int)) = false) (ifs ((a0.fst != (5 : Int)) = true) (ifs ((!ByteArray.toList a0.snd.snd.fst == ByteArray.toList { data := #[] }) = false) (ifs ((a0.fst != (6 : Int)) = true) (ifs ((!Go.IntKind.wrap Go.IntKind.i64 ((↑(List.length a0.snd.snd.snd.snd.fst) : Int) + (↑(List.length a0.snd.snd.snd.snd.snd) : Int)) == (0 : Int)) = true) (some (injRs [RT.d (Ty.int Go.IntKind.i64)] (2 : Int))) (Option.bind (cR (nat_lit 82) [RT.d Ty.bool] [inj Ty.str a0.snd.fst]) fun r => ifs ((!r) = false) (ifs ((a0.fst == (5 : Int)) = true) (Option.bind (cR (nat_lit 82) [RT.d Ty.bool] [inj Ty.str a0.snd.snd.fst]) fun r => ifs ((!r) = false) (ifs ((ByteArray.toList a0.snd.snd.fst == ByteArray.toList a0.snd.fst) = true) (some (injRs [RT.d (Ty.int Go.IntKind.i64)] (8 : Int))) (ifs ((a0.fst == (6 : Int)) = true) (ifs (decide (a0.snd.snd.snd.fst < (0 : Int)) = false) (ifs ((Go.IntKind.wrap Go.IntKind.i64 ((↑(List.length a0.snd.snd.snd.snd.fst) : Int) + (↑(List.length a0.snd.snd.snd.snd.snd) : Int)) == (0 : Int)) = false) (Option.bind (cR (nat_lit 111) [RT.d (Ty.int Go.IntKind.i64)] [inj (Ty.sl Ty.str) a0.snd.snd.snd.snd.fst]) fun r => ifs ((r != (0 : Int)) = false) (Option.bind (cR (nat_lit 111) [RT.d (Ty.int Go.IntKind.i64)] [inj (Ty.sl Ty.str) a0.snd.snd.snd.snd.snd]) fun r => ifs ((r != (0 : Int)) = true) (some (injRs [RT.d (Ty.int Go.IntKind.i64)] (6 : Int))) (some (injRs [RT.d (Ty.int Go.IntKind.i64)] (0 : Int)))) (some (injRs [RT.d (Ty.int Go.IntKind.i64)] (6 : Int)))) (some (injRs [RT.d (Ty.int Go.IntKind.i64)] (6 : Int)))) (some (injRs [RT.d (Ty.int Go.IntKind.i64)] (6 : Int)))) (some (injRs [RT.d (Ty.int Go.IntKind.i64)] (0 : Int))))) (some (injRs [RT.d (Ty.int Go.IntKind.i64)] (8 : Int)))) (ifs ((a0.fst == (6 : Int)) = true) (ifs (decide (a0.snd.snd.snd.fst < (0 : Int)) = false) (ifs ((Go.IntKind.wrap Go.IntKind.i64 ((↑(List.length a0.snd.snd.snd.snd.fst) : Int) + (↑(List.length a0.snd.snd.snd.snd.snd) : Int)) == (0 : Int)) = false) (Option.bind (cR (nat_lit 111) [RT.d (Ty.int Go.IntKind.i64)] [inj (Ty.sl Ty.str) a0.snd.snd.snd.snd.fst]) fun r => ifs ((r != (0 : Int)) = false) (Option.bind (cR (nat_lit 111) [RT.d (Ty.int Go.IntKind.i64)] [inj (Ty.sl Ty.str) a0.snd.snd.snd.snd.snd]) fun r => ifs ((r != (0 : Int)) = true) (some (injRs [RT.d (Ty.int Go.IntKind.i64)] (6 : Int))) (some (injRs [RT.d (Ty.int Go.IntKind.i64)] (0 : Int)))) (some (injRs [RT.d (Ty.int Go.IntKind.i64)] (6 : Int)))) (some (injRs [RT.d (Ty.int Go.IntKind.i64)] (6 : Int)))) (some (injRs [RT.d (Ty.int Go.IntKind.i64)] (6 : Int)))) (some (injRs [RT.d (Ty.int Go.IntKind.i64)] (0 : Int))))) (some (injRs [RT.d (Ty.int Go.IntKind.i64)] (8 : Int))))) (Option.bind (cR (nat_lit 82) [RT.d Ty.bool] [inj Ty.str a0.snd.fst]) fun r => ifs ((!r) = false) (ifs ((a0.fst == (5 : Int)) = true) (Option.bind (cR (nat_lit 82) [RT.d Ty.bool] [inj Ty.str a0.snd.snd.fst]) fun r => ifs ((!r) = false) (ifs ((ByteArray.toList a0.snd.snd.fst == ByteArray.toList a0.snd.fst) = true) (some (injRs [RT.d (Ty.int Go.IntKind.i64)] (8 : Int))) (ifs ((a0.fst == (6 : Int)) = true) (ifs (decide (a0.snd.snd.snd.fst < (0 : Int)) = false) (ifs ((Go.IntKind.wrap Go.IntKind.i64 ((↑(List.length a0.snd.snd.snd.snd.fst) : Int) + (↑(List.length a0.snd.snd.snd.snd.snd) : Int)) == (0 : Int)) = false) (Option.bind (cR (nat_lit 111) [RT.d (Ty.int Go.IntKind.i64)] [inj (Ty.sl Ty.str) a0.snd.snd.snd.snd.fst]) fun r => ifs ((r != (0 : Int)) = false) (Option.bind (cR (nat_lit 111) [RT.d (Ty.int Go.IntKind.i64)] [inj (Ty.sl Ty.str) a0.snd.snd.snd.snd.snd]) fun r => ifs ((r != (0 : Int)) = true) (some (injRs [RT.d (Ty.int Go.IntKind.i64)] (6 : Int))) (some (injRs [RT.d (Ty.int Go.IntKind.i64)] (0 : Int)))) (some (injRs [RT.d (Ty.int Go.IntKind.i64)] (6 : Int)))) (some (injRs [RT.d (Ty.int Go.IntKind.i64)] (6 : Int)))) (some (injRs [RT.d (Ty.int Go.IntKind.i64)] (6 : Int)))) (some (injRs [RT.d (Ty.int Go.IntKind.i64)] (0 : Int))))) (some (injRs [RT.d (Ty.int Go.IntKind.i64)] (8 : Int)))) (ifs ((a0.fst == (6 : Int)) = true) (ifs (decide (a0.snd.snd.snd.fst < (0 : Int)) = false) (ifs ((Go.IntKind.wrap Go.IntKind.i64 ((↑(List.length a0.snd.snd.snd.snd.fst) : Int) + (↑(List.length a0.snd.snd.snd.snd.snd) : Int)) == (0 : Int)) = false) (Option.bind (cR (nat_lit 111) [RT.d (Ty.int Go.IntKind.i64)] [inj (Ty.sl Ty.str) a0.snd.snd.snd.snd.fst]) fun r => ifs ((r != (0 : Int)) = false) (Option.bind (cR (nat_lit 111) [RT.d (Ty.int Go.IntKind.i64)] [inj (Ty.sl Ty.str) a0.snd.snd.snd.snd.snd]) fun r => ifs ((r != (0 : Int)) = true) (some (injRs [RT.d (Ty.int Go.IntKind.i64)] (6 : Int))) (some (injRs [RT.d (Ty.int Go.IntKind.i64)] (0 : Int)))) (some (injRs [RT.d (Ty.int Go.IntKind.i64)] (6 : Int)))) (some (injRs [RT.d (Ty.int Go.IntKind.i64)] (6 : Int)))) (some (injRs [RT.d (Ty.int Go.IntKind.i64)] (6 : Int)))) (some (injRs [RT.d (Ty.int Go.IntKind.i64)] (0 : Int))))) (some (injRs [RT.d (Ty.int Go.IntKind.i64)] (8 : Int))))) (some (injRs [RT.d (Ty.int Go.IntKind.i64)] (2 : Int)))) (ifs ((a0.fst != (6 : Int)) = true) (ifs ((!Go.IntKind.wrap Go.IntKind.i64 ((↑(List.length a0.snd.snd.snd.snd.fst) : Int) + (↑(List.length a0.snd.snd.snd.snd.snd) : Int)) == (0 : Int)) = true) (some (injRs [RT.d (Ty.int Go.IntKind.i64)] (2 : Int))) (Option.bind (cR (nat_lit 82) [RT.d Ty.bool] [inj Ty.str a0.snd.fst]) fun r => ifs ((!r) = false) (ifs ((a0.fst == (5 : Int)) = true) (Option.bind (cR (nat_lit 82) [RT.d Ty.bool] [inj Ty.str a0.snd.snd.fst]) fun r => ifs ((!r) = false) (ifs ((ByteArray.toList a0.snd.snd.fst == ByteArray.toList a0.snd.fst) = true) (some (injRs [RT.d (Ty.int Go.IntKind.i64)] (8 : Int))) (ifs ((a0.fst == (6 : Int)) = true) (ifs (decide (a0.snd.snd.snd.fst < (0 : Int)) = false) (ifs ((Go.IntKind.wrap Go.IntKind.i64 ((↑(List.length a0.snd.snd.snd.snd.fst) : Int) + (↑(List.length a0.snd.snd.snd.snd.snd) : Int)) == (0 : Int)) = false) (Option.bind (cR (nat_lit 111) [RT.d (Ty.int Go.IntKind.i64)] [inj (Ty.sl Ty.str) a0.snd.snd.snd.snd.fst]) fun r => ifs ((r != (0 : Int)) = false) (Option.bind (cR (nat_lit 111) [RT.d (Ty.int Go.IntKind.i64)] [inj (Ty.sl Ty.str) a0.snd.snd.snd.snd.snd]) fun r => ifs ((r != (0 : Int)) = true) (some (injRs [RT.d (Ty.int Go.IntKind.i64)] (6 : Int))) (some (injRs [RT.d (Ty.int Go.IntKind.i64)] (0 : Int)))) (some (injRs [RT.d (Ty.int Go.IntKind.i64)] (6 : Int)))) (some (injRs [RT.d (Ty.int Go.IntKind.i64)] (6 : Int)))) (some (injRs [RT.d (Ty.int Go.IntKind.i64)] (6 : Int)))) (some (injRs [RT.d (Ty.int Go.IntKind.i64)] (0 : Int))))) (some (injRs [RT.d (Ty.int Go.IntKind.i64)] (8 : Int)))) (ifs ((a0.fst == (6 : Int)) = true) (ifs (decide (a0.snd.snd.snd.fst < (0 : Int)) = false) (ifs ((Go.IntKind.wrap Go.IntKind.i64 ((↑(List.length a0.snd.snd.snd.snd.fst) : Int) + (↑(List.length a0.snd.snd.snd.snd.snd) : Int)) == (0 : Int)) = false) (Option.bind (cR (nat_lit 111) [RT.d (Ty.int Go.IntKind.i64)] [inj (Ty.sl Ty.str) a0.snd.snd.snd.snd.fst]) fun r => ifs ((r != (0 : Int)) = false) (Option.bind (cR (nat_lit 111) [RT.d (Ty.int Go.IntKind.i64)] [inj (Ty.sl Ty.str) a0.snd.snd.snd.snd.snd]) fun r => ifs ((r != (0 : Int)) = true) (some (injRs [RT.d (Ty.int Go.IntKind.i64)] (6 : Int))) (some (injRs [RT.d (Ty.int Go.IntKind.i64)] (0 : Int)))) (some (injRs [RT.d (Ty.int Go.IntKind.i64)] (6 : Int)))) (some (injRs [RT.d (Ty.int Go.IntKind.i64)] (6 : Int)))) (some (injRs [RT.d (Ty.int Go.IntKind.i64)] (6 : Int)))) (some (injRs [RT.d (Ty.int Go.IntKind.i64)] (0 : Int))))) (some (injRs [RT.d (Ty.int Go.IntKind.i64)] (8 : Int))))) (Option.bind (cR (nat_lit 82) [RT.d Ty.bool] [inj Ty.str a0.snd.fst]) fun r => ifs ((!r) = false) (ifs ((a0.fst == (5 : Int)) = true) (Option.bind (cR (nat_lit 82) [RT.d Ty.bool] [inj Ty.str a0.snd.snd.fst]) fun r => ifs ((!r) = false) (ifs ((ByteArray.toList a0.snd.snd.fst == ByteArray.toList a0.snd.fst) = true) (some (injRs [RT.d (Ty.int Go.IntKind.i64)] (8 : Int))) (ifs ((a0.fst == (6 : Int)) = true) (ifs (decide (a0.snd.snd.snd.fst < (0 : Int)) = false) (ifs ((Go.IntKind.wrap Go.IntKind.i64 ((↑(List.length a0.snd.snd.snd.snd.fst) : Int) + (↑(List.length a0.snd.snd.snd.snd.snd) : Int)) == (0 : Int)) = false) (Option.bind (cR (nat_lit 111) [RT.d (Ty.int Go.IntKind.i64)] [inj (Ty.sl Ty.str) a0.snd.snd.snd.snd.fst]) fun r => ifs ((r != (0 : Int)) = false) (Option.bind (cR (nat_lit 111) [RT.d (Ty.int Go.IntKind.i64)] [inj (Ty.sl Ty.str) a0.snd.snd.snd.snd.snd]) fun r => ifs ((r != (0 : Int)) = true) (some (injRs [RT.d (Ty.int Go.IntKind.i64)] (6 : Int))) (some (injRs [RT.d (Ty.int Go.IntKind.i64)] (0 : Int)))) (some (injRs [RT.d (Ty.int Go.IntKind.i64)] (6 : Int)))) (some (injRs [RT.d (Ty.int Go.IntKind.i64)] (6 : Int)))) (some (injRs [RT.d (Ty.int Go.IntKind.i64)] (6 : Int)))) (some (injRs [RT.d (Ty.int Go.IntKind.i64)] (0 : Int))))) (some (injRs [RT.d (Ty.int Go.IntKind.i64)] (8 : Int)))) (ifs ((a0.fst == (6 : Int)) = true) (ifs (decide (a0.snd.snd.snd.fst < (0 : Int)) = false) (ifs ((Go.IntKind.wrap Go.IntKind.i64 ((↑(List.length a0.snd.snd.snd.snd.fst) : Int) + (↑(List.length a0.snd.snd.snd.snd.snd) : Int)) == (0 : Int)) = false) (Option.bind (cR (nat_lit 111) [RT.d (Ty.int Go.IntKind.i64)] [inj (Ty.sl Ty.str) a0.snd.snd.snd.snd.fst]) fun r => ifs ((r != (0 : Int)) = false) (Option.bind (cR (nat_lit 111) [RT.d (Ty.int Go.IntKind.i64)] [inj (Ty.sl Ty.str) a0.snd.snd.snd.snd.snd]) fun r => ifs ((r != (0 : Int)) = true) (some (injRs [RT.d (Ty.int Go.IntKind.i64)] (6 : Int))) (some (injRs [RT.d (Ty.int Go.IntKind.i64)] (0 : Int)))) (some (injRs [RT.d (Ty.int Go.IntKind.i64)] (6 : Int)))) (some (injRs [RT.d (Ty.int Go.IntKind.i64)] (6 : Int)))) (some (injRs [RT.d (Ty.int Go.IntKind.i64)] (6 : Int)))) (some (injRs [RT.d (Ty.int Go.IntKind.i64)] (0 : Int))))) (some (injRs [RT.d (Ty.int Go.IntKind.i64)] (8 : Int)))))) (some (injRs [RT.d (Ty.int Go.IntKind.i64)] (2 : Int)))) (some (injRs [RT.d (Ty.int Go.IntKind.i64)] (2 : Int)))) (ifs (decide (a0.fst < (1 : Int)) = false) (ifs (decide (a0.fst > (6 : Int)) = false) (ifs ((a0.fst != (5 : Int)) = true) (ifs ((!ByteArray.toList a0.snd.snd.fst == ByteArray.toList { data := #[] }) = false) (ifs ((a0.fst != (6 : Int)) = true) (some (injRs [RT.d (Ty.int Go.IntKind.i64)] (2 : Int))) (Option.bind (cR (nat_lit 82) [RT.d Ty.bool] [inj Ty.str a0.snd.fst]) fun r => ifs ((!r) = false) (ifs ((a0.fst == (5 : Int)) = true) (Option.bind (cR (nat_lit 82) [RT.d Ty.bool] [inj Ty.str a0.snd.snd.fst]) fun r => ifs ((!r) = false) (ifs ((ByteArray.toList a0.snd.snd.fst == ByteArray.toList a0.snd.fst) = true) (some (injRs [RT.d (Ty.int Go.IntKind.i64)] (8 : Int))) (ifs ((a0.fst == (6 : Int)) = true) (ifs (decide (a0.snd.snd.snd.fst < (0 : Int)) = false) (ifs ((Go.IntKind.wrap Go.IntKind.i64 ((↑(List.length a0.snd.snd.snd.snd.fst) : Int) + (↑(List.length a0.snd.snd.snd.snd.snd) : Int)) == (0 : Int)) = false) (Option.bind (cR (nat_lit 111) [RT.d (Ty.int Go.IntKind.i64)] [inj (Ty.sl Ty.str) a0.snd.snd.snd.snd.fst]) fun r => ifs ((r != (0 : Int)) = false) (Option.bind (cR (nat_lit 111) [RT.d (Ty.int Go.IntKind.i64)] [inj (Ty.sl Ty.str) a0.snd.snd.snd.snd.snd]) fun r => ifs ((r != (0 : Int)) = true) (some (injRs [RT.d (Ty.int Go.IntKind.i64)] (6 : Int))) (some (injRs [RT.d (Ty.int Go.IntKind.i64)] (0 : Int)))) (some (injRs [RT.d (Ty.int Go.IntKind.i64)] (6 : Int)))) (some (injRs [RT.d (Ty.int Go.IntKind.i64)] (6 : Int)))) (some (injRs [RT.d (Ty.int Go.IntKind.i64)] (6 : Int)))) (some (injRs [RT.d (Ty.int Go.IntKind.i64)] (0 : Int))))) (some (injRs [RT.d (Ty.int Go.IntKind.i64)] (8 : Int)))) (ifs ((a0.fst == (6 : Int)) = true) (ifs (decide (a0.snd.snd.snd.fst < (0 : Int)) = false) (ifs ((Go.IntKind.wrap Go.IntKind.i64 ((↑(List.length a0.snd.snd.snd.snd.fst) : Int) + (↑(List.length a0.snd.snd.snd.snd.snd) : Int)) == (0 : Int)) = false) (Option.bind (cR (nat_lit 111) [RT.d (Ty.int Go.IntKind.i64)] [inj (Ty.sl Ty.str) a0.snd.snd.snd.snd.fst]) fun r => ifs ((r != (0 : Int)) = false) (Option.bind (cR (nat_lit 111) [RT.d (Ty.int Go.IntKind.i64)] [inj (Ty.sl Ty.str) a0.snd.snd.snd.snd.snd]) fun r => ifs ((r != (0 : Int)) = true) (some (injRs [RT.d (Ty.int Go.IntKind.i64)] (6 : Int))) (some (injRs [RT.d (Ty.int Go.IntKind.i64)] (0 : Int)))) (some (injRs [RT.d (Ty.int Go.IntKind.i64)] (6 : Int)))) (some (injRs [RT.d (Ty.int Go.IntKind.i64)] (6 : Int)))) (some (injRs [RT.d (Ty.int Go.IntKind.i64)] (6 : Int)))) (some (injRs [RT.d (Ty.int Go.IntKind.i64)] (0 : Int))))) (some (injRs [RT.d (Ty.int Go.IntKind.i64)] (8 : Int))))) (some (injRs [RT.d (Ty.int Go.IntKind.i64)] (2 : Int)))) (ifs ((a0.fst != (6 : Int)) = true) (some (injRs [RT.d (Ty.int Go.IntKind.i64)] (2 : Int))) (Option.bind (cR (nat_lit 82) [RT.d Ty.bool] [inj Ty.str a0.snd.fst]) fun r => ifs ((!r) = false) (ifs ((a0.fst == (5 : Int)) = true) (Option.bind (cR (nat_lit 82) [RT.d Ty.bool] [inj Ty.str a0.snd.snd.fst]) fun r => ifs ((!r) = false) (ifs ((ByteArray.toList a0.snd.snd.fst == ByteArray.toList a0.snd.fst) = true) (some (injRs [RT.d (Ty.int Go.IntKind.i64)] (8 : Int))) (ifs ((a0.fst == (6 : Int)) = true) (ifs (decide (a0.snd.snd.snd.fst < (0 : Int)) = false) (ifs ((Go.IntKind.wrap Go.IntKind.i64 ((↑(List.length a0.snd.snd.snd.snd.fst) : Int) + (↑(List.length a0.snd.snd.snd.snd.snd) : Int)) == (0 : Int)) = false) (Option.bind (cR (nat_lit 111) [RT.d (Ty.int Go.IntKind.i64)] [inj (Ty.sl Ty.str) a0.snd.snd.snd.snd.fst]) fun r => ifs ((r != (0 : Int)) = false) (Option.bind (cR (nat_lit 111) [RT.d (Ty.int Go.IntKind.i64)] [inj (Ty.sl Ty.str) a0.snd.snd.snd.snd.snd]) fun r => ifs ((r != (0 : Int)) = true) (some (injRs [RT.d (Ty.int Go.IntKind.i64)] (6 : Int))) (some (injRs [RT.d (Ty.int Go.IntKind.i64)] (0 : Int)))) (some (injRs [RT.d (Ty.int Go.IntKind.i64)] (6 : Int)))) (some (injRs [RT.d (Ty.int Go.IntKind.i64)] (6 : Int)))) (some (injRs [RT.d (Ty.int Go.IntKind.i64)] (6 : Int)))) (some (injRs [RT.d (Ty.int Go.IntKind.i64)] (0 : Int))))) (some (injRs [RT.d (Ty.int Go.IntKind.i64)] (8 : Int)))) (ifs ((a0.fst == (6 : Int)) = true) (ifs (decide (a0.snd.snd.snd.fst < (0 : Int)) = false) (ifs ((Go.IntKind.wrap Go.IntKind.i64 ((↑(List.length a0.snd.snd.snd.snd.fst) : Int) + (↑(List.length a0.snd.snd.snd.snd.snd) : Int)) == (0 : Int)) = false) (Option.bind (cR (nat_lit 111) [RT.d (Ty.int Go.IntKind.i64)] [inj (Ty.sl Ty.str) a0.snd.snd.snd.snd.fst]) fun r => ifs ((r != (0 : Int)) = false) (Option.bind (cR (nat_lit 111) [RT.d (Ty.int Go.IntKind.i64)] [inj (Ty.sl Ty.str) a0.snd.snd.snd.snd.snd]) fun r => ifs ((r != (0 : Int)) = true) (some (injRs [RT.d (Ty.int Go.IntKind.i64)] (6 : Int))) (some (injRs [RT.d (Ty.int Go.IntKind.i64)] (0 : Int)))) (some (injRs [RT.d (Ty.int Go.IntKind.i64)] (6 : Int)))) (some (injRs [RT.d (Ty.int Go.IntKind.i64)] (6 : Int)))) (some (injRs [RT.d (Ty.int Go.IntKind.i64)] (6 : Int)))) (some (injRs [RT.d (Ty.int Go.IntKind.i64)] (0 : Int))))) (some (injRs [RT.d (Ty.int Go.IntKind.i64)] (8 : Int)))))) (some (injRs [RT.d (Ty.int Go.IntKind.i64)] (2 : Int)))) (some (injRs [RT.d (Ty.int Go.IntKind.i64)] (2 : Int)))) := by kernel_rfl
theorem e20 (a0 : Int × ByteArray × ByteArray × Int × List ByteArray × List ByteArray) (a1 : Int × ByteArray × ByteArray × Int × List ByteArray × List ByteArray) : callG W0 (callW W0) (cutW W0) 20 [inj ty24 a0, inj ty24 a1] = ifs ((a0.fst == (6 : Int)) = true) (ifs ((a1.fst == (6 : Int)) = true) (ifs ((!ByteArray.toList a0.snd.fst == ByteArray.toList a1.snd.fst) = false) (Option.bind (cR (nat_lit 61) [RT.d (Ty.int Go.IntKind.i64)] [inj ty24 a0]) fun r => ifs ((r != (0 : Int)) = false) (Option.bind (cR (nat_lit 61) [RT.d (Ty.int Go.IntKind.i64)] [inj ty24 a1]) fun r => ifs ((r != (0 : Int)) = true) (some (injRs [RT.d Ty.bool] false)) (ifs (decide (Go.IntKind.wrap Go.IntKind.i64 (a1.snd.snd.snd.fst - (↑(List.length a0.snd.snd.snd.snd.snd) : Int)) ≤ a0.snd.snd.snd.fst) = true) (some (injRs [RT.d Ty.bool] (decide (Go.IntKind.wrap Go.IntKind.i64 (a0.snd.snd.snd.fst - (↑(List.length a1.snd.snd.snd.snd.fst) : Int)) ≤ a1.snd.snd.snd.fst)))) (some (injRs [RT.d Ty.bool] false)))) (some (injRs [RT.d Ty.bool] false))) (some (injRs [RT.d Ty.bool] false))) (some (injRs [RT.d Ty.bool] false))) (some (injRs [RT.d Ty.bool] false)) := by kernel_rfl
theorem e69 (a0 : Int) (a1 : Int) (a2 : Int × ByteArray × ByteArray × Int × List ByteArray × List ByteArray) : callG W0 (callW W0) (cutW W0) 69 [inj (Ty.int Go.IntKind.i64) a0, inj (Ty.int Go.IntKind.i64) a1, A.c (C.pt (Pt.sh ty24 a2 (0 : Nat)))] = ifs ((0 : Int) ≤ imin (imax a1 (imin (imax a0 (0 : Int)) (↑(List.length a2.snd.snd.snd.snd.snd) : Int))) (↑(List.length a2.snd.snd.snd.snd.snd) : Int) ∧ imin (imax a1 (imin (imax a0 (0 : Int)) (↑(List.length a2.snd.snd.snd.snd.snd) : Int))) (↑(List.length a2.snd.snd.snd.snd.snd) : Int) ≤ (↑(List.length a2.snd.snd.snd.snd.snd) : Int)) (ifs ((0 : Int) ≤ imin (imax a0 (0 : Int)) (↑(List.length a2.snd.snd.snd.snd.snd) : Int) ∧ imin (imax a0 (0 : Int)) (↑(List.length a2.snd.snd.snd.snd.snd) : Int) ≤ imin (imax a1 (imin (imax a0 (0 : Int)) (↑(List.length a2.snd.snd.snd.snd.snd) : Int))) (↑(List.length a2.snd.snd.snd.snd.snd) : Int)) (some (injRs [RT.d (Ty.sl Ty.str)] (List.drop (Int.toNat (imin (imax a0 (0 : Int)) (↑(List.length a2.snd.snd.snd.snd.snd) : Int))) (List.take (Int.toNat (imin (imax a1 (imin (imax a0 (0 : Int)) (↑(List.length a2.snd.snd.snd.snd.snd) : Int))) (↑(List.length a2.snd.snd.snd.snd.snd) : Int))) a2.snd.snd.snd.snd.snd)))) none) none := by kernel_rfl
noncomputable def td70_3 : List Item := (findT (code Tryd.f70) [] 3).getD []
noncomputable def l70_3 (x0 : List (List ByteArray)) (x1 : Int) (x2 : List (List ByteArray)) (x3 : Int) (x4 : Int) : Option (List RV) := cutW W0 n70 td70_3 { fr := [((0 : Nat), F.a (A.c (C.sl (Ty.sl Ty.str) x0))), ((3 : Nat), F.a (A.c (C.sc (Go.Value.int Go.IntKind.i64 x1)))), ((9 : Nat), F.a (A.c (C.sl (Ty.sl Ty.str) x2))), ((10 : Nat), F.a (A.c (C.sc (Go.Value.int Go.IntKind.i64 x3)))), ((11 : Nat), F.a (A.c (C.sc (Go.Value.int Go.IntKind.i64 x4))))], mem := [], nx := (0 : Nat) }
noncomputable def td70_11 : List Item := (findT (code Tryd.f70) [] 11).getD []
noncomputable def l70_11 (x0 : List (List ByteArray)) (x1 : Int) (x2 : Int) (x3 : List ByteArray) : Option (List RV) := cutW W0 n70 td70_11 { fr := [((6 : Nat), F.a (A.c (C.ow (0 : Nat) (List.length x3)))), ((25 : Nat), F.a (A.c (C.sl (Ty.sl Ty.str) x0))), ((26 : Nat), F.a (A.c (C.sc (Go.Value.int Go.IntKind.i64 x1)))), ((27 : Nat), F.a (A.c (C.sc (Go.Value.int Go.IntKind.i64 x2))))], mem := [some (Row.arr (9 : Nat) Ty.str x3 false)], nx := (1 : Nat) }
theorem e70 (a0 : List (List ByteArray)) : callG W0 (callW W0) (cutW W0) 70 [inj (Ty.sl (Ty.sl Ty.str)) a0] = l70_3 a0 (0 : Int) a0 (↑(List.length a0) : Int) (0 : Int) := by kernel_rfl
theorem q70_3 (x0 : List (List ByteArray)) (x1 : Int) (x2 : List (List ByteArray)) (x3 : Int) (x4 : Int) : cutG W0 (callW W0) (cutW W0) n70 td70_3 { fr := [((0 : Nat), F.a (A.c (C.sl (Ty.sl Ty.str) x0))), ((3 : Nat), F.a (A.c (C.sc (Go.Value.int Go.IntKind.i64 x1)))), ((9 : Nat), F.a (A.c (C.sl (Ty.sl Ty.str) x2))), ((10 : Nat), F.a (A.c (C.sc (Go.Value.int Go.IntKind.i64 x3)))), ((11 : Nat), F.a (A.c (C.sc (Go.Value.int Go.IntKind.i64 x4))))], mem := [], nx := (0 : Nat) } = ifs (decide (x4 < x3) = true) (ifs ((0 : Int) ≤ x4) (Option.bind x2[Int.toNat x4]? fun r => ifs (decide (Go.IntKind.wrap Go.IntKind.i64 (x1 + (↑(List.length r) : Int)) < (0 : Int)) = true) none (l70_3 x0 (Go.IntKind.wrap Go.IntKind.i64 (x1 + (↑(List.length r) : Int))) x2 x3 (Go.IntKind.wrap Go.IntKind.i64 (x4 + (1 : Int))))) none) (Option.bind (cR (nat_lit 116) [RT.own (9 : Go.TypeId) Ty.str] [A.c C.nl, inj (Ty.int Go.IntKind.i64) x1]) fun r => l70_11 x0 (↑(List.length x0) : Int) (0 : Int) r) := by kernel_rfl
theorem q70_11 (x0 : List (List ByteArray)) (x1 : Int) (x2 : Int) (x3 : List ByteArray) : cutG W0 (callW W0) (cutW W0) n70 td70_11 { fr := [((6 : Nat), F.a (A.c (C.ow (0 : Nat) (List.length x3)))), ((25 : Nat), F.a (A.c (C.sl (Ty.sl Ty.str) x0))), ((26 : Nat), F.a (A.c (C.sc (Go.Value.int Go.IntKind.i64 x1)))), ((27 : Nat), F.a (A.c (C.sc (Go.Value.int Go.IntKind.i64 x2))))], mem := [some (Row.arr (9 : Nat) Ty.str x3 false)], nx := (1 : Nat) } = ifs (decide (x2 < x1) = true) (ifs ((0 : Int) ≤ x2) (Option.bind x0[Int.toNat x2]? fun r => ifs ((List.length x3 + List.length r) * nat_lit 16 ≤ (140737488355328 : Nat)) (l70_11 x0 x1 (Go.IntKind.wrap Go.IntKind.i64 (x2 + (1 : Int))) (List.take (List.length x3) x3 ++ r)) none) none) (some (injRs [RT.own (9 : Go.TypeId) Ty.str] (List.take (List.length x3) x3))) := by kernel_rfl
theorem e18 (a0 : Int × ByteArray × ByteArray × Int × List ByteArray × List ByteArray) (a1 : Int × ByteArray × ByteArray × Int × List ByteArray × List ByteArray) : callG W0 (callW W0) (cutW W0) 18 [inj ty24 a0, inj ty24 a1] = Option.bind (cR (nat_lit 20) [RT.d Ty.bool] [inj ty24 a0, inj ty24 a1]) fun r => ifs ((!r) = true) (some (injRs [RT.d ty24, RT.d Ty.bool] (((0 : Int), { data := #[] }, { data := #[] }, (0 : Int), [], []), false))) (ifs ((0 : Int) ≤ Go.IntKind.wrap Go.IntKind.i64 ((↑(List.length a1.snd.snd.snd.snd.fst) : Int) - imin (imax (Go.IntKind.wrap Go.IntKind.i64 (Go.IntKind.wrap Go.IntKind.i64 (Go.IntKind.wrap Go.IntKind.i64 (a1.snd.snd.snd.fst - a0.snd.snd.snd.fst) + (↑(List.length a1.snd.snd.snd.snd.fst) : Int)) - (↑(List.length a0.snd.snd.snd.snd.snd) : Int))) (0 : Int)) (↑(List.length a1.snd.snd.snd.snd.fst) : Int)) ∧ Go.IntKind.wrap Go.IntKind.i64 ((↑(List.length a1.snd.snd.snd.snd.fst) : Int) - imin (imax (Go.IntKind.wrap Go.IntKind.i64 (Go.IntKind.wrap Go.IntKind.i64 (Go.IntKind.wrap Go.IntKind.i64 (a1.snd.snd.snd.fst - a0.snd.snd.snd.fst) + (↑(List.length a1.snd.snd.snd.snd.fst) : Int)) - (↑(List.length a0.snd.snd.snd.snd.snd) : Int))) (0 : Int)) (↑(List.length a1.snd.snd.snd.snd.fst) : Int)) ≤ (↑(List.length a1.snd.snd.snd.snd.fst) : Int)) (ifs ((0 : Int) ≤ imin (imax (Go.IntKind.wrap Go.IntKind.i64 ((0 : Int) - Go.IntKind.wrap Go.IntKind.i64 (a1.snd.snd.snd.fst - a0.snd.snd.snd.fst))) (0 : Int)) (↑(List.length a1.snd.snd.snd.snd.fst) : Int) ∧ imin (imax (Go.IntKind.wrap Go.IntKind.i64 ((0 : Int) - Go.IntKind.wrap Go.IntKind.i64 (a1.snd.snd.snd.fst - a0.snd.snd.snd.fst))) (0 : Int)) (↑(List.length a1.snd.snd.snd.snd.fst) : Int) ≤ Go.IntKind.wrap Go.IntKind.i64 ((↑(List.length a1.snd.snd.snd.snd.fst) : Int) - imin (imax (Go.IntKind.wrap Go.IntKind.i64 (Go.IntKind.wrap Go.IntKind.i64 (Go.IntKind.wrap Go.IntKind.i64 (a1.snd.snd.snd.fst - a0.snd.snd.snd.fst) + (↑(List.length a1.snd.snd.snd.snd.fst) : Int)) - (↑(List.length a0.snd.snd.snd.snd.snd) : Int))) (0 : Int)) (↑(List.length a1.snd.snd.snd.snd.fst) : Int))) (Option.bind (cR (nat_lit 69) [RT.d (Ty.sl Ty.str)] [inj (Ty.int Go.IntKind.i64) (Go.IntKind.wrap Go.IntKind.i64 (a1.snd.snd.snd.fst - a0.snd.snd.snd.fst)), inj (Ty.int Go.IntKind.i64) (Go.IntKind.wrap Go.IntKind.i64 (Go.IntKind.wrap Go.IntKind.i64 (a1.snd.snd.snd.fst - a0.snd.snd.snd.fst) + (↑(List.length a1.snd.snd.snd.snd.fst) : Int))), A.c (C.pt (Pt.sh ty24 a0 (0 : Nat)))]) fun r => Option.bind (cR (nat_lit 66) [RT.d Ty.bool] [inj (Ty.sl Ty.str) (List.drop (Int.toNat (imin (imax (Go.IntKind.wrap Go.IntKind.i64 ((0 : Int) - Go.IntKind.wrap Go.IntKind.i64 (a1.snd.snd.snd.fst - a0.snd.snd.snd.fst))) (0 : Int)) (↑(List.length a1.snd.snd.snd.snd.fst) : Int))) (List.take (Int.toNat (Go.IntKind.wrap Go.IntKind.i64 ((↑(List.length a1.snd.snd.snd.snd.fst) : Int) - imin (imax (Go.IntKind.wrap Go.IntKind.i64 (Go.IntKind.wrap Go.IntKind.i64 (Go.IntKind.wrap Go.IntKind.i64 (a1.snd.snd.snd.fst - a0.snd.snd.snd.fst) + (↑(List.length a1.snd.snd.snd.snd.fst) : Int)) - (↑(List.length a0.snd.snd.snd.snd.snd) : Int))) (0 : Int)) (↑(List.length a1.snd.snd.snd.snd.fst) : Int)))) a1.snd.snd.snd.snd.fst)), inj (Ty.sl Ty.str) r]) fun r => ifs ((!r) = true) (some (injRs [RT.d ty24, RT.d Ty.bool] (((0 : Int), { data := #[] }, { data := #[] }, (0 : Int), [], []), false))) (ifs ((0 : Int) ≤ imax (Go.IntKind.wrap Go.IntKind.i64 ((0 : Int) - Go.IntKind.wrap Go.IntKind.i64 (a1.snd.snd.snd.fst - a0.snd.snd.snd.fst))) (0 : Int) ∧ imax (Go.IntKind.wrap Go.IntKind.i64 ((0 : Int) - Go.IntKind.wrap Go.IntKind.i64 (a1.snd.snd.snd.fst - a0.snd.snd.snd.fst))) (0 : Int) ≤ (↑(List.length a1.snd.snd.snd.snd.fst) : Int)) (ifs ((0 : Int) ≤ (0 : Int) ∧ (0 : Int) ≤ imax (Go.IntKind.wrap Go.IntKind.i64 ((0 : Int) - Go.IntKind.wrap Go.IntKind.i64 (a1.snd.snd.snd.fst - a0.snd.snd.snd.fst))) (0 : Int)) (ifs ((0 : Int) ≤ (↑(List.length a1.snd.snd.snd.snd.fst) : Int) ∧ (↑(List.length a1.snd.snd.snd.snd.fst) : Int) ≤ (↑(List.length a1.snd.snd.snd.snd.fst) : Int)) (ifs ((0 : Int) ≤ Go.IntKind.wrap Go.IntKind.i64 ((↑(List.length a1.snd.snd.snd.snd.fst) : Int) - imax (Go.IntKind.wrap Go.IntKind.i64 (Go.IntKind.wrap Go.IntKind.i64 (Go.IntKind.wrap Go.IntKind.i64 (a1.snd.snd.snd.fst - a0.snd.snd.snd.fst) + (↑(List.length a1.snd.snd.snd.snd.fst) : Int)) - (↑(List.length a0.snd.snd.snd.snd.snd) : Int))) (0 : Int)) ∧ Go.IntKind.wrap Go.IntKind.i64 ((↑(List.length a1.snd.snd.snd.snd.fst) : Int) - imax (Go.IntKind.wrap Go.IntKind.i64 (Go.IntKind.wrap Go.IntKind.i64 (Go.IntKind.wrap Go.IntKind.i64 (a1.snd.snd.snd.fst - a0.snd.snd.snd.fst) + (↑(List.length a1.snd.snd.snd.snd.fst) : Int)) - (↑(List.length a0.snd.snd.snd.snd.snd) : Int))) (0 : Int)) ≤ (↑(List.length a1.snd.snd.snd.snd.fst) : Int)) (Option.bind (cR (nat_lit 70) [RT.own (9 : Go.TypeId) Ty.str] [inj (Ty.sl (Ty.sl Ty.str)) [List.take (Int.toNat (imax (Go.IntKind.wrap Go.IntKind.i64 ((0 : Int) - Go.IntKind.wrap Go.IntKind.i64 (a1.snd.snd.snd.fst - a0.snd.snd.snd.fst))) (0 : Int))) a1.snd.snd.snd.snd.fst, a0.snd.snd.snd.snd.fst, List.drop (Int.toNat (Go.IntKind.wrap Go.IntKind.i64 ((↑(List.length a1.snd.snd.snd.snd.fst) : Int) - imax (Go.IntKind.wrap Go.IntKind.i64 (Go.IntKind.wrap Go.IntKind.i64 (Go.IntKind.wrap Go.IntKind.i64 (a1.snd.snd.snd.fst - a0.snd.snd.snd.fst) + (↑(List.length a1.snd.snd.snd.snd.fst) : Int)) - (↑(List.length a0.snd.snd.snd.snd.snd) : Int))) (0 : Int)))) (List.take (Int.toNat (↑(List.length a1.snd.snd.snd.snd.fst) : Int)) a1.snd.snd.snd.snd.fst)]]) fun r => Option.bind (cR (nat_lit 69) [RT.d (Ty.sl Ty.str)] [inj (Ty.int Go.IntKind.i64) (0 : Int), inj (Ty.int Go.IntKind.i64) (Go.IntKind.wrap Go.IntKind.i64 (a1.snd.snd.snd.fst - a0.snd.snd.snd.fst)), A.c (C.pt (Pt.sh (Ty.pair (Ty.int Go.IntKind.i64) (Ty.pair Ty.str (Ty.pair Ty.str (Ty.pair (Ty.int Go.IntKind.i64) (Ty.pair (Ty.sl Ty.str) (Ty.sl Ty.str)))))) a0 (0 : Nat)))]) fun r_1 => Option.bind (cR (nat_lit 69) [RT.d (Ty.sl Ty.str)] [inj (Ty.int Go.IntKind.i64) (Go.IntKind.wrap Go.IntKind.i64 (Go.IntKind.wrap Go.IntKind.i64 (a1.snd.snd.snd.fst - a0.snd.snd.snd.fst) + (↑(List.length a1.snd.snd.snd.snd.fst) : Int))), inj (Ty.int Go.IntKind.i64) (↑(List.length a0.snd.snd.snd.snd.snd) : Int), A.c (C.pt (Pt.sh (Ty.pair (Ty.int Go.IntKind.i64) (Ty.pair Ty.str (Ty.pair Ty.str (Ty.pair (Ty.int Go.IntKind.i64) (Ty.pair (Ty.sl Ty.str) (Ty.sl Ty.str)))))) a0 (0 : Nat)))]) fun r_2 => Option.bind (cR (nat_lit 70) [RT.own (9 : Go.TypeId) Ty.str] [inj (Ty.sl (Ty.sl Ty.str)) [r_1, a1.snd.snd.snd.snd.snd, r_2]]) fun r_3 => some (injRs [RT.d ty24, RT.d Ty.bool] (((6 : Int), a0.snd.fst, { data := #[] }, imin a0.snd.snd.snd.fst a1.snd.snd.snd.fst, List.take (List.length r) r, List.take (List.length r_3) r_3), true))) none) none) none) none)) none) none) := by kernel_rfl
theorem e158 (a0 : Int) (a1 : Int) (a2 : Int) : callG W0 (callW W0) (cutW W0) 158 [inj (Ty.int Go.IntKind.i64) a0, inj (Ty.int Go.IntKind.i64) a1, A.c (C.pt (Pt.sh (Ty.int Go.IntKind.i64) a2 (0 : Nat)))] = ifs ((a2 == a0) = true) (some (injRs [RT.d (Ty.int Go.IntKind.i64)] a1)) (some (injRs [RT.d (Ty.int Go.IntKind.i64)] a0)) := by kernel_rfl
theorem e112 (a0 : Int) : callG W0 (callW W0) (cutW W0) 112 [inj (Ty.int Go.IntKind.i64) a0] = ifs ((a0 == (1 : Int)) = true) (Option.bind (cR (nat_lit 158) [RT.d (Ty.int Go.IntKind.i64)] [inj (Ty.int Go.IntKind.i64) (1 : Int), inj (Ty.int Go.IntKind.i64) (2 : Int), A.c (C.pt (Pt.sh (Ty.int Go.IntKind.i64) a0 (0 : Nat)))]) fun r => some (injRs [RT.d (Ty.int Go.IntKind.i64)] r)) (ifs ((a0 == (2 : Int)) = true) (Option.bind (cR (nat_lit 158) [RT.d (Ty.int Go.IntKind.i64)] [inj (Ty.int Go.IntKind.i64) (1 : Int), inj (Ty.int Go.IntKind.i64) (2 : Int), A.c (C.pt (Pt.sh (Ty.int Go.IntKind.i64) a0 (0 : Nat)))]) fun r => some (injRs [RT.d (Ty.int Go.IntKind.i64)] r)) (ifs ((a0 == (3 : Int)) = true) (Option.bind (cR (nat_lit 158) [RT.d (Ty.int Go.IntKind.i64)] [inj (Ty.int Go.IntKind.i64) (3 : Int), inj (Ty.int Go.IntKind.i64) (4 : Int), A.c (C.pt (Pt.sh (Ty.int Go.IntKind.i64) a0 (0 : Nat)))]) fun r => some (injRs [RT.d (Ty.int Go.IntKind.i64)] r)) (ifs ((a0 == (4 : Int)) = true) (Option.bind (cR (nat_lit 158) [RT.d (Ty.int Go.IntKind.i64)] [inj (Ty.int Go.IntKind.i64) (3 : Int), inj (Ty.int Go.IntKind.i64) (4 : Int), A.c (C.pt (Pt.sh (Ty.int Go.IntKind.i64) a0 (0 : Nat)))]) fun r => some (injRs [RT.d (Ty.int Go.IntKind.i64)] r)) (some (injRs [RT.d (Ty.int Go.IntKind.i64)] a0))))) := by kernel_rfl
theorem e64 (a0 : Int × ByteArray × ByteArray × Int × List ByteArray × List ByteArray) : callG W0 (callW W0) (cutW W0) 64 [inj ty24 a0] = Option.bind (cR (nat_lit 112) [RT.d (Ty.int Go.IntKind.i64)] [inj (Ty.int Go.IntKind.i64) a0.fst]) fun r => Option.bind (cR (nat_lit 113) [RT.own (9 : Go.TypeId) Ty.str] [inj (Ty.sl Ty.str) a0.snd.snd.snd.snd.snd]) fun r_1 => Option.bind (cR (nat_lit 113) [RT.own (9 : Go.TypeId) Ty.str] [inj (Ty.sl Ty.str) a0.snd.snd.snd.snd.fst]) fun r_2 => ifs ((a0.fst == (5 : Int)) = true) (some (injRs [RT.d ty24] (r, a0.snd.snd.fst, a0.snd.fst, a0.snd.snd.snd.fst, List.take (List.length r_1) r_1, List.take (List.length r_2) r_2))) (some (injRs [RT.d ty24] (r, a0.snd.fst, a0.snd.snd.fst, a0.snd.snd.snd.fst, List.take (List.length r_1) r_1, List.take (List.length r_2) r_2))) := by kernel_rfl
theorem e114 (a0 : Int × ByteArray × ByteArray × Int × List ByteArray × List ByteArray) (a1 : Int × ByteArray × ByteArray × Int × List ByteArray × List ByteArray) : callG W0 (callW W0) (cutW W0) 114 [inj ty24 a0, inj ty24 a1] = ifs ((a0.fst == a1.fst) = true) (ifs ((ByteArray.toList a0.snd.fst == ByteArray.toList a1.snd.fst) = true) (ifs ((ByteArray.toList a0.snd.snd.fst == ByteArray.toList a1.snd.snd.fst) = true) (ifs ((a0.snd.snd.snd.fst == a1.snd.snd.snd.fst) = true) (Option.bind (cR (nat_lit 66) [RT.d Ty.bool] [inj (Ty.sl Ty.str) a0.snd.snd.snd.snd.fst, inj (Ty.sl Ty.str) a1.snd.snd.snd.snd.fst]) fun r => ifs (r = true) (Option.bind (cR (nat_lit 66) [RT.d Ty.bool] [inj (Ty.sl Ty.str) a0.snd.snd.snd.snd.snd, inj (Ty.sl Ty.str) a1.snd.snd.snd.snd.snd]) fun r => some (injRs [RT.d Ty.bool] r)) (some (injRs [RT.d Ty.bool] false))) (some (injRs [RT.d Ty.bool] false))) (some (injRs [RT.d Ty.bool] false))) (some (injRs [RT.d Ty.bool] false))) (some (injRs [RT.d Ty.bool] false)) := by kernel_rfl
theorem e65 (a0 : Int × ByteArray × ByteArray × Int × List ByteArray × List ByteArray) (a1 : Int × ByteArray × ByteArray × Int × List ByteArray × List ByteArray) : callG W0 (callW W0) (cutW W0) 65 [inj ty24 a0, inj ty24 a1] = ifs ((a0.fst == (1 : Int)) = false) (ifs ((a0.fst == (3 : Int)) = false) (ifs ((a0.fst == (5 : Int)) = true) (Option.bind (cR (nat_lit 64) [RT.d ty24] [inj ty24 a0]) fun r => Option.bind (cR (nat_lit 114) [RT.d Ty.bool] [inj ty24 r, inj ty24 a1]) fun r => some (injRs [RT.d Ty.bool] r)) (some (injRs [RT.d Ty.bool] false))) (Option.bind (cR (nat_lit 64) [RT.d ty24] [inj ty24 a0]) fun r => Option.bind (cR (nat_lit 114) [RT.d Ty.bool] [inj ty24 r, inj ty24 a1]) fun r => some (injRs [RT.d Ty.bool] r))) (Option.bind (cR (nat_lit 64) [RT.d ty24] [inj ty24 a0]) fun r => Option.bind (cR (nat_lit 114) [RT.d Ty.bool] [inj ty24 r, inj ty24 a1]) fun r => some (injRs [RT.d Ty.bool] r)) := by kernel_rfl
theorem e16 (a0 : Int × ByteArray × ByteArray × Int × List ByteArray × List ByteArray) (a1 : Int × ByteArray × ByteArray × Int × List ByteArray × List ByteArray) : callG W0 (callW W0) (cutW W0) 16 [inj ty24 a0, inj ty24 a1] = Option.bind (cR (nat_lit 61) [RT.d (Ty.int Go.IntKind.i64)] [inj ty24 a0]) fun r => ifs ((r != (0 : Int)) = false) (Option.bind (cR (nat_lit 61) [RT.d (Ty.int Go.IntKind.i64)] [inj ty24 a1]) fun r => ifs ((r != (0 : Int)) = true) (some (injRs [RT.own (24 : Go.TypeId) ty24, RT.d Ty.bool] ([], false))) (Option.bind (cR (nat_lit 65) [RT.d Ty.bool] [inj ty24 a0, inj ty24 a1]) fun r => ifs (r = true) (some (injRs [RT.own (24 : Go.TypeId) ty24, RT.d Ty.bool] ([], true))) (ifs ((a0.fst == (5 : Int)) = true) (ifs ((a1.fst == (5 : Int)) = true) (ifs ((ByteArray.toList a1.snd.fst == ByteArray.toList a0.snd.snd.fst) = true) (some (injRs [RT.own (24 : Go.TypeId) ty24, RT.d Ty.bool] ([((5 : Int), a0.snd.fst, a1.snd.snd.fst, (0 : Int), [], [])], true))) (Option.bind (cR (nat_lit 18) [RT.d ty24, RT.d Ty.bool] [inj ty24 a0, inj ty24 a1]) fun r => ifs ((!r.snd) = true) (some (injRs [RT.own (24 : Go.TypeId) ty24, RT.d Ty.bool] ([], false))) (Option.bind (cR (nat_lit 66) [RT.d Ty.bool] [inj (Ty.sl Ty.str) r.fst.snd.snd.snd.snd.fst, inj (Ty.sl Ty.str) r.fst.snd.snd.snd.snd.snd]) fun r_1 => ifs (r_1 = true) (some (injRs [RT.own (24 : Go.TypeId) ty24, RT.d Ty.bool] ([], true))) (some (injRs [RT.own (24 : Go.TypeId) ty24, RT.d Ty.bool] ([r.fst], true)))))) (Option.bind (cR (nat_lit 18) [RT.d ty24, RT.d Ty.bool] [inj ty24 a0, inj ty24 a1]) fun r => ifs ((!r.snd) = true) (some (injRs [RT.own (24 : Go.TypeId) ty24, RT.d Ty.bool] ([], false))) (Option.bind (cR (nat_lit 66) [RT.d Ty.bool] [inj (Ty.sl Ty.str) r.fst.snd.snd.snd.snd.fst, inj (Ty.sl Ty.str) r.fst.snd.snd.snd.snd.snd]) fun r_1 => ifs (r_1 = true) (some (injRs [RT.own (24 : Go.TypeId) ty24, RT.d Ty.bool] ([], true))) (some (injRs [RT.own (24 : Go.TypeId) ty24, RT.d Ty.bool] ([r.fst], true)))))) (Option.bind (cR (nat_lit 18) [RT.d ty24, RT.d Ty.bool] [inj ty24 a0, inj ty24 a1]) fun r => ifs ((!r.snd) = true) (some (injRs [RT.own (24 : Go.TypeId) ty24, RT.d Ty.bool] ([], false))) (Option.bind (cR (nat_lit 66) [RT.d Ty.bool] [inj (Ty.sl Ty.str) r.fst.snd.snd.snd.snd.fst, inj (Ty.sl Ty.str) r.fst.snd.snd.snd.snd.snd]) fun r_1 => ifs (r_1 = true) (some (injRs [RT.own (24 : Go.TypeId) ty24, RT.d Ty.bool] ([], true))) (some (injRs [RT.own (24 : Go.TypeId) ty24, RT.d Ty.bool] ([r.fst], true)))))))) (some (injRs [RT.own (24 : Go.TypeId) ty24, RT.d Ty.bool] ([], false))) := by kernel_rfl
noncomputable def td22_3 : List Item := (findT (code Tryd.f22) [] 3).getD []
noncomputable def l22_3 (x0 : List (Int × ByteArray × ByteArray × Int × List ByteArray × List ByteArray)) (x1 : Int) (x2 : Int) (x3 : List (Int × ByteArray × ByteArray × Int × List ByteArray × List ByteArray)) : Option (List RV) := cutW W0 n22 td22_3 { fr := [((3 : Nat), F.a (A.c (C.ow (0 : Nat) (List.length x3)))), ((9 : Nat), F.a (A.c (C.sl ty24 x0))), ((10 : Nat), F.a (A.c (C.sc (Go.Value.int Go.IntKind.i64 x1)))), ((11 : Nat), F.a (A.c (C.sc (Go.Value.int Go.IntKind.i64 x2))))], mem := [some (Row.arr (24 : Nat) ty24 x3 false)], nx := (1 : Nat) }
noncomputable def td22_6 : List Item := (findT (code Tryd.f22) [] 6).getD []
noncomputable def l22_6 (x0 : Nat) (x1 : Nat) (x2 : List (Int × ByteArray × ByteArray × Int × List ByteArray × List ByteArray)) (x3 : Int) (x4 : Int) (x5 : List (Int × ByteArray × ByteArray × Int × List ByteArray × List ByteArray)) (x6 : List (Int × ByteArray × ByteArray × Int × List ByteArray × List ByteArray)) : Option (List RV) := cutW W0 n22 td22_6 { fr := [((3 : Nat), F.a (A.c (C.ow (0 : Nat) x0))), ((6 : Nat), F.a (A.c (C.ow (1 : Nat) x1))), ((9 : Nat), F.a (A.c (C.sl ty24 x2))), ((10 : Nat), F.a (A.c (C.sc (Go.Value.int Go.IntKind.i64 x3)))), ((11 : Nat), F.a (A.c (C.sc (Go.Value.int Go.IntKind.i64 x4))))], mem := [some (Row.arr (24 : Nat) ty24 x5 false), some (Row.arr (24 : Nat) ty24 x6 false)], nx := (2 : Nat) }
theorem e22 (a0 : List (Int × ByteArray × ByteArray × Int × List ByteArray × List ByteArray)) : callG W0 (callW W0) (cutW W0) 22 [inj (Ty.sl ty24) a0] = l22_3 a0 (↑(List.length a0) : Int) (0 : Int) [] := by kernel_rfl
theorem q22_3 (x0 : List (Int × ByteArray × ByteArray × Int × List ByteArray × List ByteArray)) (x1 : Int) (x2 : Int) (x3 : List (Int × ByteArray × ByteArray × Int × List ByteArray × List ByteArray)) : cutG W0 (callW W0) (cutW W0) n22 td22_3 { fr := [((3 : Nat), F.a (A.c (C.ow (0 : Nat) (List.length x3)))), ((9 : Nat), F.a (A.c (C.sl ty24 x0))), ((10 : Nat), F.a (A.c (C.sc (Go.Value.int Go.IntKind.i64 x1)))), ((11 : Nat), F.a (A.c (C.sc (Go.Value.int Go.IntKind.i64 x2))))], mem := [some (Row.arr (24 : Nat) ty24 x3 false)], nx := (1 : Nat) } = ifs (decide (x2 < x1) = true) (ifs ((0 : Int) ≤ x2) (Option.bind x0[Int.toNat x2]? fun r => Option.bind (cR (nat_lit 64) [RT.d ty24] [inj ty24 r]) fun r => Option.bind (cR (nat_lit 64) [RT.d ty24] [inj ty24 r]) fun r => l22_6 (List.length x3) (1 : Nat) x0 x1 x2 x3 [r]) none) (some (injRs [RT.own (24 : Go.TypeId) ty24] (List.take (List.length x3) x3))) := by kernel_rfl
theorem q22_6 (x0 : Nat) (x1 : Nat) (x2 : List (Int × ByteArray × ByteArray × Int × List ByteArray × List ByteArray)) (x3 : Int) (x4 : Int) (x5 : List (Int × ByteArray × ByteArray × Int × List ByteArray × List ByteArray)) (x6 : List (Int × ByteArray × ByteArray × Int × List ByteArray × List ByteArray)) : cutG W0 (callW W0) (cutW W0) n22 td22_6 { fr := [((3 : Nat), F.a (A.c (C.ow (0 : Nat) x0))), ((6 : Nat), F.a (A.c (C.ow (1 : Nat) x1))), ((9 : Nat), F.a (A.c (C.sl ty24 x2))), ((10 : Nat), F.a (A.c (C.sc (Go.Value.int Go.IntKind.i64 x3)))), ((11 : Nat), F.a (A.c (C.sc (Go.Value.int Go.IntKind.i64 x4))))], mem := [some (Row.arr (24 : Nat) ty24 x5 false), some (Row.arr (24 : Nat) ty24 x6 false)], nx := (2 : Nat) } = ifs (decide ((↑x1 : Int) > (0 : Int)) = true) (ifs (decide ((↑x0 : Int) > (0 : Int)) = true) (ifs ((0 : Int) ≤ Go.IntKind.wrap Go.IntKind.i64 ((↑x0 : Int) - (1 : Int)) ∧ Go.IntKind.wrap Go.IntKind.i64 ((↑x0 : Int) - (1 : Int)) < (↑x0 : Int)) (Option.bind x5[Int.toNat (Go.IntKind.wrap Go.IntKind.i64 ((↑x0 : Int) - (1 : Int)))]? fun r => ifs ((0 : Int) ≤ (0 : Int) ∧ (0 : Int) < (↑x1 : Int)) (Option.bind x6[Int.toNat (0 : Int)]? fun r_1 => Option.bind (cR (nat_lit 16) [RT.own (24 : Go.TypeId) ty24, RT.d Ty.bool] [inj ty24 r, inj ty24 r_1]) fun r => ifs ((!r.snd) = true) (ifs ((x0 + List.length (List.take x1 x6)) * nat_lit 96 ≤ (140737488355328 : Nat)) (l22_3 x2 x3 (Go.IntKind.wrap Go.IntKind.i64 (x4 + (1 : Int))) (List.take x0 x5 ++ List.take x1 x6)) none) (ifs ((0 : Int) ≤ Go.IntKind.wrap Go.IntKind.i64 ((↑x0 : Int) - (1 : Int)) ∧ Go.IntKind.wrap Go.IntKind.i64 ((↑x0 : Int) - (1 : Int)) ≤ (↑x0 : Int)) (l22_6 (Int.toNat (Go.IntKind.wrap Go.IntKind.i64 ((↑x0 : Int) - (1 : Int)))) (List.length r.fst) x2 x3 x4 x5 r.fst) none)) none) none) (ifs ((x0 + List.length (List.take x1 x6)) * nat_lit 96 ≤ (140737488355328 : Nat)) (l22_3 x2 x3 (Go.IntKind.wrap Go.IntKind.i64 (x4 + (1 : Int))) (List.take x0 x5 ++ List.take x1 x6)) none)) (ifs ((x0 + List.length (List.take x1 x6)) * nat_lit 96 ≤ (140737488355328 : Nat)) (l22_3 x2 x3 (Go.IntKind.wrap Go.IntKind.i64 (x4 + (1 : Int))) (List.take x0 x5 ++ List.take x1 x6)) none) := by kernel_rfl
noncomputable def td179_3 : List Item := (findT (code Tryd.f179) [] 3).getD []
noncomputable def l179_3 (x0 : Int) (x1 : ByteArray) (x2 : Int) : Option (List RV) := cutW W0 n179 td179_3 { fr := [((0 : Nat), F.a (A.c (C.sc (Go.Value.int Go.IntKind.u8 x0)))), ((3 : Nat), F.a (A.c (C.sc (Go.Value.string x1)))), ((4 : Nat), F.a (A.c (C.sc (Go.Value.int Go.IntKind.i64 x2))))], mem := [], nx := (0 : Nat) }
theorem e179 (a0 : Int) : callG W0 (callW W0) (cutW W0) 179 [inj (Ty.int Go.IntKind.u8) a0] = l179_3 a0 { data := #[(97 : UInt8), (98 : UInt8), (99 : UInt8), (100 : UInt8), (101 : UInt8), (102 : UInt8), (103 : UInt8), (104 : UInt8), (105 : UInt8), (106 : UInt8), (107 : UInt8), (108 : UInt8), (109 : UInt8), (110 : UInt8), (111 : UInt8), (112 : UInt8), (113 : UInt8), (114 : UInt8), (115 : UInt8), (116 : UInt8), (117 : UInt8), (118 : UInt8), (119 : UInt8), (120 : UInt8), (121 : UInt8), (122 : UInt8), (48 : UInt8), (49 : UInt8), (50 : UInt8), (51 : UInt8), (52 : UInt8), (53 : UInt8), (54 : UInt8), (55 : UInt8), (56 : UInt8), (57 : UInt8), (46 : UInt8), (95 : UInt8), (45 : UInt8)] } (0 : Int) := by kernel_rfl
theorem q179_3 (x0 : Int) (x1 : ByteArray) (x2 : Int) : cutG W0 (callW W0) (cutW W0) n179 td179_3 { fr := [((0 : Nat), F.a (A.c (C.sc (Go.Value.int Go.IntKind.u8 x0)))), ((3 : Nat), F.a (A.c (C.sc (Go.Value.string x1)))), ((4 : Nat), F.a (A.c (C.sc (Go.Value.int Go.IntKind.i64 x2))))], mem := [], nx := (0 : Nat) } = ifs (decide (x2 < (↑(ByteArray.size x1) : Int)) = true) (ifs ((0 : Int) ≤ x2) (Option.bind x1[Int.toNat x2]? fun r => ifs (((↑(UInt8.toNat r) : Int) == x0) = true) (some (injRs [RT.d Ty.bool] true)) (l179_3 x0 x1 (Go.IntKind.wrap Go.IntKind.i64 (x2 + (1 : Int))))) none) (some (injRs [RT.d Ty.bool] false)) := by kernel_rfl
noncomputable def td147_2 : List Item := (findT (code Tryd.f147) [] 2).getD []
noncomputable def l147_2 (x0 : ByteArray) (x1 : Int) : Option (List RV) := cutW W0 n147 td147_2 { fr := [((0 : Nat), F.a (A.c (C.sc (Go.Value.string x0)))), ((3 : Nat), F.a (A.c (C.sc (Go.Value.int Go.IntKind.i64 x1))))], mem := [], nx := (0 : Nat) }
theorem e147 (a0 : ByteArray) : callG W0 (callW W0) (cutW W0) 147 [inj Ty.str a0] = l147_2 a0 (0 : Int) := by kernel_rfl
theorem q147_2 (x0 : ByteArray) (x1 : Int) : cutG W0 (callW W0) (cutW W0) n147 td147_2 { fr := [((0 : Nat), F.a (A.c (C.sc (Go.Value.string x0)))), ((3 : Nat), F.a (A.c (C.sc (Go.Value.int Go.IntKind.i64 x1))))], mem := [], nx := (0 : Nat) } = ifs (decide (x1 < (↑(ByteArray.size x0) : Int)) = true) (ifs ((0 : Int) ≤ x1) (Option.bind x0[Int.toNat x1]? fun r => Option.bind (cR (nat_lit 179) [RT.d Ty.bool] [inj (Ty.int Go.IntKind.u8) (↑(UInt8.toNat r) : Int)]) fun r => ifs ((!r) = true) (some (injRs [RT.d Ty.bool] false)) (l147_2 x0 (Go.IntKind.wrap Go.IntKind.i64 (x1 + (1 : Int))))) none) (ifs (decide ((↑(ByteArray.size x0) : Int) ≥ (1 : Int)) = true) (ifs (decide ((↑(ByteArray.size x0) : Int) ≤ (40 : Int)) = true) (ifs ((!ByteArray.toList x0 == ByteArray.toList { data := #[(46 : UInt8)] }) = true) (some (injRs [RT.d Ty.bool] !ByteArray.toList x0 == ByteArray.toList { data := #[(46 : UInt8), (46 : UInt8)] })) (some (injRs [RT.d Ty.bool] false))) (some (injRs [RT.d Ty.bool] false))) (some (injRs [RT.d Ty.bool] false))) := by kernel_rfl
noncomputable def td98_6 : List Item := (findT (code Tryd.f98) [] 6).getD []
noncomputable def l98_6 (x0 : ByteArray) (x1 : Int) (x2 : Int) (x3 : List ByteArray) : Option (List RV) := cutW W0 n98 td98_6 { fr := [((0 : Nat), F.a (A.c (C.sc (Go.Value.string x0)))), ((3 : Nat), F.a (A.c (C.ow (0 : Nat) (List.length x3)))), ((4 : Nat), F.a (A.c (C.sc (Go.Value.int Go.IntKind.i64 x1)))), ((5 : Nat), F.a (A.c (C.sc (Go.Value.int Go.IntKind.i64 x2))))], mem := [some (Row.arr (9 : Nat) Ty.str x3 false)], nx := (1 : Nat) }
theorem e98 (a0 : ByteArray) : callG W0 (callW W0) (cutW W0) 98 [inj Ty.str a0] = ifs (decide ((↑(ByteArray.size a0) : Int) > (200 : Int)) = true) (some (injRs [RT.own (9 : Go.TypeId) Ty.str] [])) (l98_6 a0 (0 : Int) (0 : Int) []) := by kernel_rfl
theorem q98_6 (x0 : ByteArray) (x1 : Int) (x2 : Int) (x3 : List ByteArray) : cutG W0 (callW W0) (cutW W0) n98 td98_6 { fr := [((0 : Nat), F.a (A.c (C.sc (Go.Value.string x0)))), ((3 : Nat), F.a (A.c (C.ow (0 : Nat) (List.length x3)))), ((4 : Nat), F.a (A.c (C.sc (Go.Value.int Go.IntKind.i64 x1)))), ((5 : Nat), F.a (A.c (C.sc (Go.Value.int Go.IntKind.i64 x2))))], mem := [some (Row.arr (9 : Nat) Ty.str x3 false)], nx := (1 : Nat) } = ifs (decide (x2 ≤ (↑(ByteArray.size x0) : Int)) = true) (ifs (decide (x2 < (↑(ByteArray.size x0) : Int)) = true) (ifs ((0 : Int) ≤ x2) (Option.bind x0[Int.toNat x2]? fun r => ifs (((↑(UInt8.toNat r) : Int) != (47 : Int)) = true) (l98_6 x0 x1 (Go.IntKind.wrap Go.IntKind.i64 (x2 + (1 : Int))) x3) (ifs ((0 : Int) ≤ x2 ∧ x2 ≤ (↑(ByteArray.size x0) : Int)) (ifs ((0 : Int) ≤ x1 ∧ x1 ≤ x2) (Option.bind (cR (nat_lit 147) [RT.d Ty.bool] [inj Ty.str (ByteArray.extract x0 (Int.toNat x1) (Int.toNat x2))]) fun r => ifs ((!r) = true) (some (injRs [RT.own (9 : Go.TypeId) Ty.str] [])) (ifs ((0 : Int) ≤ x2 ∧ x2 ≤ (↑(ByteArray.size x0) : Int)) (ifs ((0 : Int) ≤ x1 ∧ x1 ≤ x2) (ifs ((List.length x3 + (1 : Nat)) * nat_lit 16 ≤ (140737488355328 : Nat)) (l98_6 x0 (Go.IntKind.wrap Go.IntKind.i64 (x2 + (1 : Int))) (Go.IntKind.wrap Go.IntKind.i64 (x2 + (1 : Int))) (List.take (List.length x3) x3 ++ [ByteArray.extract x0 (Int.toNat x1) (Int.toNat x2)])) none) none) none)) none) none)) none) (ifs ((0 : Int) ≤ x2 ∧ x2 ≤ (↑(ByteArray.size x0) : Int)) (ifs ((0 : Int) ≤ x1 ∧ x1 ≤ x2) (Option.bind (cR (nat_lit 147) [RT.d Ty.bool] [inj Ty.str (ByteArray.extract x0 (Int.toNat x1) (Int.toNat x2))]) fun r => ifs ((!r) = true) (some (injRs [RT.own (9 : Go.TypeId) Ty.str] [])) (ifs ((0 : Int) ≤ x2 ∧ x2 ≤ (↑(ByteArray.size x0) : Int)) (ifs ((0 : Int) ≤ x1 ∧ x1 ≤ x2) (ifs ((List.length x3 + (1 : Nat)) * nat_lit 16 ≤ (140737488355328 : Nat)) (l98_6 x0 (Go.IntKind.wrap Go.IntKind.i64 (x2 + (1 : Int))) (Go.IntKind.wrap Go.IntKind.i64 (x2 + (1 : Int))) (List.take (List.length x3) x3 ++ [ByteArray.extract x0 (Int.toNat x1) (Int.toNat x2)])) none) none) none)) none) none)) (ifs (decide ((↑(List.length x3) : Int) > (16 : Int)) = true) (some (injRs [RT.own (9 : Go.TypeId) Ty.str] [])) (some (injRs [RT.own (9 : Go.TypeId) Ty.str] (List.take (List.length x3) x3)))) := by kernel_rfl
theorem e79 (a0 : ByteArray) : callG W0 (callW W0) (cutW W0) 79 [inj Ty.str a0] = Option.bind (cR (nat_lit 98) [RT.own (9 : Go.TypeId) Ty.str] [inj Ty.str a0]) fun r => some (injRs [RT.d Ty.bool] (decide ((↑(List.length r) : Int) > (0 : Int)))) := by kernel_rfl
noncomputable def td144_4 : List Item := (findT (code Tryd.f144) [] 4).getD []
noncomputable def l144_4 (x0 : ByteArray) (x1 : Int) : Option (List RV) := cutW W0 n144 td144_4 { fr := [((0 : Nat), F.a (A.c (C.sc (Go.Value.string x0)))), ((3 : Nat), F.a (A.c (C.sc (Go.Value.int Go.IntKind.i64 x1))))], mem := [], nx := (0 : Nat) }
theorem e144 (a0 : ByteArray) : callG W0 (callW W0) (cutW W0) 144 [inj Ty.str a0] = ifs (decide ((↑(ByteArray.size a0) : Int) > (200 : Int)) = true) (some (injRs [RT.d Ty.bool] false)) (l144_4 a0 (0 : Int)) := by kernel_rfl
theorem q144_4 (x0 : ByteArray) (x1 : Int) : cutG W0 (callW W0) (cutW W0) n144 td144_4 { fr := [((0 : Nat), F.a (A.c (C.sc (Go.Value.string x0)))), ((3 : Nat), F.a (A.c (C.sc (Go.Value.int Go.IntKind.i64 x1))))], mem := [], nx := (0 : Nat) } = ifs (decide (x1 < (↑(ByteArray.size x0) : Int)) = true) (ifs ((0 : Int) ≤ (↑(ByteArray.size x0) : Int) ∧ (↑(ByteArray.size x0) : Int) ≤ (↑(ByteArray.size x0) : Int)) (ifs ((0 : Int) ≤ x1 ∧ x1 ≤ (↑(ByteArray.size x0) : Int)) (Option.bind (cR (nat_lit 177) [RT.d (Ty.int Go.IntKind.i32), RT.d (Ty.int Go.IntKind.i64)] [inj Ty.str (ByteArray.extract x0 (Int.toNat x1) (Int.toNat (↑(ByteArray.size x0) : Int)))]) fun r => ifs ((r.fst == (65533 : Int)) = true) (ifs ((r.snd == (1 : Int)) = false) (ifs (decide (r.fst < (32 : Int)) = true) (ifs ((r.fst != (9 : Int)) = true) (some (injRs [RT.d Ty.bool] false)) (l144_4 x0 (Go.IntKind.wrap Go.IntKind.i64 (x1 + r.snd)))) (l144_4 x0 (Go.IntKind.wrap Go.IntKind.i64 (x1 + r.snd)))) (some (injRs [RT.d Ty.bool] false))) (ifs (decide (r.fst < (32 : Int)) = true) (ifs ((r.fst != (9 : Int)) = true) (some (injRs [RT.d Ty.bool] false)) (l144_4 x0 (Go.IntKind.wrap Go.IntKind.i64 (x1 + r.snd)))) (l144_4 x0 (Go.IntKind.wrap Go.IntKind.i64 (x1 + r.snd))))) none) none) (some (injRs [RT.d Ty.bool] true)) := by kernel_rfl
noncomputable def td94_4 : List Item := (findT (code Tryd.f94) [] 4).getD []
noncomputable def l94_4 (x0 : List ByteArray) (x1 : Int) : Option (List RV) := cutW W0 n94 td94_4 { fr := [((0 : Nat), F.a (A.c (C.sl Ty.str x0))), ((3 : Nat), F.a (A.c (C.sc (Go.Value.int Go.IntKind.i64 x1))))], mem := [], nx := (0 : Nat) }
theorem e94 (a0 : List ByteArray) : callG W0 (callW W0) (cutW W0) 94 [inj (Ty.sl Ty.str) a0] = ifs (decide ((↑(List.length a0) : Int) > (2000 : Int)) = true) (some (injRs [RT.d (Ty.int Go.IntKind.i64)] (4 : Int))) (l94_4 a0 (0 : Int)) := by kernel_rfl
theorem q94_4 (x0 : List ByteArray) (x1 : Int) : cutG W0 (callW W0) (cutW W0) n94 td94_4 { fr := [((0 : Nat), F.a (A.c (C.sl Ty.str x0))), ((3 : Nat), F.a (A.c (C.sc (Go.Value.int Go.IntKind.i64 x1))))], mem := [], nx := (0 : Nat) } = ifs (decide (x1 < (↑(List.length x0) : Int)) = true) (ifs ((0 : Int) ≤ x1) (Option.bind x0[Int.toNat x1]? fun r => Option.bind (cR (nat_lit 144) [RT.d Ty.bool] [inj Ty.str r]) fun r => ifs ((!r) = true) (some (injRs [RT.d (Ty.int Go.IntKind.i64)] (6 : Int))) (l94_4 x0 (Go.IntKind.wrap Go.IntKind.i64 (x1 + (1 : Int))))) none) (some (injRs [RT.d (Ty.int Go.IntKind.i64)] (0 : Int))) := by kernel_rfl
theorem e67 (a0 : Int × ByteArray × ByteArray × Int × List ByteArray × List ByteArray) : callG W0 (callW W0) (cutW W0) 67 [inj ty24 a0] = ifs (decide (a0.fst < (1 : Int)) = false) (ifs (decide (a0.fst > (6 : Int)) = false) (ifs ((a0.fst != (5 : Int)) = true) (ifs ((!ByteArray.toList a0.snd.snd.fst == ByteArray.toList { data := #[] }) = false) (ifs ((a0.fst != (6 : Int)) = true) (ifs ((a0.snd.snd.snd.fst != (0 : Int)) = false) (ifs (decide (Go.IntKind.wrap Go.IntKind.i64 ((↑(List.length a0.snd.snd.snd.snd.fst) : Int) + (↑(List.length a0.snd.snd.snd.snd.snd) : Int)) > (0 : Int)) = true) (some (injRs [RT.d (Ty.int Go.IntKind.i64)] (2 : Int))) (Option.bind (cR (nat_lit 79) [RT.d Ty.bool] [inj Ty.str a0.snd.fst]) fun r => ifs ((!r) = false) (ifs ((a0.fst == (5 : Int)) = true) (Option.bind (cR (nat_lit 79) [RT.d Ty.bool] [inj Ty.str a0.snd.snd.fst]) fun r => ifs ((!r) = false) (ifs ((ByteArray.toList a0.snd.fst == ByteArray.toList a0.snd.snd.fst) = true) (some (injRs [RT.d (Ty.int Go.IntKind.i64)] (8 : Int))) (ifs ((a0.fst == (6 : Int)) = true) (ifs (decide (a0.snd.snd.snd.fst < (0 : Int)) = false) (ifs ((Go.IntKind.wrap Go.IntKind.i64 ((↑(List.length a0.snd.snd.snd.snd.fst) : Int) + (↑(List.length a0.snd.snd.snd.snd.snd) : Int)) == (0 : Int)) = false) (Option.bind (cR (nat_lit 94) [RT.d (Ty.int Go.IntKind.i64)] [inj (Ty.sl Ty.str) a0.snd.snd.snd.snd.fst]) fun r => ifs ((r != (0 : Int)) = false) (Option.bind (cR (nat_lit 94) [RT.d (Ty.int Go.IntKind.i64)] [inj (Ty.sl Ty.str) a0.snd.snd.snd.snd.snd]) fun r => ifs ((r != (0 : Int)) = true) (some (injRs [RT.d (Ty.int Go.IntKind.i64)] (6 : Int))) (some (injRs [RT.d (Ty.int Go.IntKind.i64)] (0 : Int)))) (some (injRs [RT.d (Ty.int Go.IntKind.i64)] (6 : Int)))) (some (injRs [RT.d (Ty.int Go.IntKind.i64)] (6 : Int)))) (some (injRs [RT.d (Ty.int Go.IntKind.i64)] (6 : Int)))) (some (injRs [RT.d (Ty.int Go.IntKind.i64)] (0 : Int))))) (some (injRs [RT.d (Ty.int Go.IntKind.i64)] (8 : Int)))) (ifs ((a0.fst == (6 : Int)) = true) (ifs (decide (a0.snd.snd.snd.fst < (0 : Int)) = false) (ifs ((Go.IntKind.wrap Go.IntKind.i64 ((↑(List.length a0.snd.snd.snd.snd.fst) : Int) + (↑(List.length a0.snd.snd.snd.snd.snd) : Int)) == (0 : Int)) = false) (Option.bind (cR (nat_lit 94) [RT.d (Ty.int Go.IntKind.i64)] [inj (Ty.sl Ty.str) a0.snd.snd.snd.snd.fst]) fun r => ifs ((r != (0 : Int)) = false) (Option.bind (cR (nat_lit 94) [RT.d (Ty.int Go.IntKind.i64)] [inj (Ty.sl Ty.str) a0.snd.snd.snd.snd.snd]) fun r => ifs ((r != (0 : Int)) = true) (some (injRs [RT.d (Ty.int Go.IntKind.i64)] (6 : Int))) (some (injRs [RT.d (Ty.int Go.IntKind.i64)] (0 : Int)))) (some (injRs [RT.d (Ty.int Go.IntKind.i64)] (6 : Int)))) (some (injRs [RT.d (Ty.int Go.IntKind.i64)] (6 : Int)))) (some (injRs [RT.d (Ty.int Go.IntKind.i64)] (6 : Int)))) (some (injRs [RT.d (Ty.int Go.IntKind.i64)] (0 : Int))))) (some (injRs [RT.d (Ty.int Go.IntKind.i64)] (8 : Int))))) (some (injRs [RT.d (Ty.int Go.IntKind.i64)] (2 : Int)))) (Option.bind (cR (nat_lit 79) [RT.d Ty.bool] [inj Ty.str a0.snd.fst]) fun r => ifs ((!r) = false) (ifs ((a0.fst == (5 : Int)) = true) (Option.bind (cR (nat_lit 79) [RT.d Ty.bool] [inj Ty.str a0.snd.snd.fst]) fun r => ifs ((!r) = false) (ifs ((ByteArray.toList a0.snd.fst == ByteArray.toList a0.snd.snd.fst) = true) (some (injRs [RT.d (Ty.int Go.IntKind.i64)] (8 : Int))) (ifs ((a0.fst == (6 : Int)) = true) (ifs (decide (a0.snd.snd.snd.fst < (0 : Int)) = false) (ifs ((Go.IntKind.wrap Go.IntKind.i64 ((↑(List.length a0.snd.snd.snd.snd.fst) : Int) + (↑(List.length a0.snd.snd.snd.snd.snd) : Int)) == (0 : Int)) = false) (Option.bind (cR (nat_lit 94) [RT.d (Ty.int Go.IntKind.i64)] [inj (Ty.sl Ty.str) a0.snd.snd.snd.snd.fst]) fun r => ifs ((r != (0 : Int)) = false) (Option.bind (cR (nat_lit 94) [RT.d (Ty.int Go.IntKind.i64)] [inj (Ty.sl Ty.str) a0.snd.snd.snd.snd.snd]) fun r => ifs ((r != (0 : Int)) = true) (some (injRs [RT.d (Ty.int Go.IntKind.i64)] (6 : Int))) (some (injRs [RT.d (Ty.int Go.IntKind.i64)] (0 : Int)))) (some (injRs [RT.d (Ty.int Go.IntKind.i64)] (6 : Int)))) (some (injRs [RT.d (Ty.int Go.IntKind.i64)] (6 : Int)))) (some (injRs [RT.d (Ty.int Go.IntKind.i64)] (6 : Int)))) (some (injRs [RT.d (Ty.int Go.IntKind.i64)] (0 : Int))))) (some (injRs [RT.d (Ty.int Go.IntKind.i64)] (8 : Int)))) (ifs ((a0.fst == (6 : Int)) = true) (ifs (decide (a0.snd.snd.snd.fst < (0 : Int)) = false) (ifs ((Go.IntKind.wrap Go.IntKind.i64 ((↑(List.length a0.snd.snd.snd.snd.fst) : Int) + (↑(List.length a0.snd.snd.snd.snd.snd) : Int)) == (0 : Int)) = false) (Option.bind (cR (nat_lit 94) [RT.d (Ty.int Go.IntKind.i64)] [inj (Ty.sl Ty.str) a0.snd.snd.snd.snd.fst]) fun r => ifs ((r != (0 : Int)) = false) (Option.bind (cR (nat_lit 94) [RT.d (Ty.int Go.IntKind.i64)] [inj (Ty.sl Ty.str) a0.snd.snd.snd.snd.snd]) fun r => ifs ((r != (0 : Int)) = true) (some (injRs [RT.d (Ty.int Go.IntKind.i64)] (6 : Int))) (some (injRs [RT.d (Ty.int Go.IntKind.i64)] (0 : Int)))) (some (injRs [RT.d (Ty.int Go.IntKind.i64)] (6 : Int)))) (some (injRs [RT.d (Ty.int Go.IntKind.i64)] (6 : Int)))) (some (injRs [RT.d (Ty.int Go.IntKind.i64)] (6 : Int)))) (some (injRs [RT.d (Ty.int Go.IntKind.i64)] (0 : Int))))) (some (injRs [RT.d (Ty.int Go.IntKind.i64)] (8 : Int))))) (some (injRs [RT.d (Ty.int Go.IntKind.i64)] (2 : Int)))) (ifs ((a0.fst != (6 : Int)) = true) (ifs ((a0.snd.snd.snd.fst != (0 : Int)) = false) (ifs (decide (Go.IntKind.wrap Go.IntKind.i64 ((↑(List.length a0.snd.snd.snd.snd.fst) : Int) + (↑(List.length a0.snd.snd.snd.snd.snd) : Int)) > (0 : Int)) = true) (some (injRs [RT.d (Ty.int Go.IntKind.i64)] (2 : Int))) (Option.bind (cR (nat_lit 79) [RT.d Ty.bool] [inj Ty.str a0.snd.fst]) fun r => ifs ((!r) = false) (ifs ((a0.fst == (5 : Int)) = true) (Option.bind (cR (nat_lit 79) [RT.d Ty.bool] [inj Ty.str a0.snd.snd.fst]) fun r => ifs ((!r) = false) (ifs ((ByteArray.toList a0.snd.fst == ByteArray.toList a0.snd.snd.fst) = true) (some (injRs [RT.d (Ty.int Go.IntKind.i64)] (8 : Int))) (ifs ((a0.fst == (6 : Int)) = true) (ifs (decide (a0.snd.snd.snd.fst < (0 : Int)) = false) (ifs ((Go.IntKind.wrap Go.IntKind.i64 ((↑(List.length a0.snd.snd.snd.snd.fst) : Int) + (↑(List.length a0.snd.snd.snd.snd.snd) : Int)) == (0 : Int)) = false) (Option.bind (cR (nat_lit 94) [RT.d (Ty.int Go.IntKind.i64)] [inj (Ty.sl Ty.str) a0.snd.snd.snd.snd.fst]) fun r => ifs ((r != (0 : Int)) = false) (Option.bind (cR (nat_lit 94) [RT.d (Ty.int Go.IntKind.i64)] [inj (Ty.sl Ty.str) a0.snd.snd.snd.snd.snd]) fun r => ifs ((r != (0 : Int)) = true) (some (injRs [RT.d (Ty.int Go.IntKind.i64)] (6 : Int))) (some (injRs [RT.d (Ty.int Go.IntKind.i64)] (0 : Int)))) (some (injRs [RT.d (Ty.int Go.IntKind.i64)] (6 : Int)))) (some (injRs [RT.d (Ty.int Go.IntKind.i64)] (6 : Int)))) (some (injRs [RT.d (Ty.int Go.IntKind.i64)] (6 : Int)))) (some (injRs [RT.d (Ty.int Go.IntKind.i64)] (0 : Int))))) (some (injRs [RT.d (Ty.int Go.IntKind.i64)] (8 : Int)))) (ifs ((a0.fst == (6 : Int)) = true) (ifs (decide (a0.snd.snd.snd.fst < (0 : Int)) = false) (ifs ((Go.IntKind.wrap Go.IntKind.i64 ((↑(List.length a0.snd.snd.snd.snd.fst) : Int) + (↑(List.length a0.snd.snd.snd.snd.snd) : Int)) == (0 : Int)) = false) (Option.bind (cR (nat_lit 94) [RT.d (Ty.int Go.IntKind.i64)] [inj (Ty.sl Ty.str) a0.snd.snd.snd.snd.fst]) fun r => ifs ((r != (0 : Int)) = false) (Option.bind (cR (nat_lit 94) [RT.d (Ty.int Go.IntKind.i64)] [inj (Ty.sl Ty.str) a0.snd.snd.snd.snd.snd]) fun r => ifs ((r != (0 : Int)) = true) (some (injRs [RT.d (Ty.int Go.IntKind.i64)] (6 : Int))) (some (injRs [RT.d (Ty.int Go.IntKind.i64)] (0 : Int)))) (some (injRs [RT.d (Ty.int Go.IntKind.i64)] (6 : Int)))) (some (injRs [RT.d (Ty.int Go.IntKind.i64)] (6 : Int)))) (some (injRs [RT.d (Ty.int Go.IntKind.i64)] (6 : Int)))) (some (injRs [RT.d (Ty.int Go.IntKind.i64)] (0 : Int))))) (some (injRs [RT.d (Ty.int Go.IntKind.i64)] (8 : Int))))) (some (injRs [RT.d (Ty.int Go.IntKind.i64)] (2 : Int)))) (Option.bind (cR (nat_lit 79) [RT.d Ty.bool] [inj Ty.str a0.snd.fst]) fun r => ifs ((!r) = false) (ifs ((a0.fst == (5 : Int)) = true) (Option.bind (cR (nat_lit 79) [RT.d Ty.bool] [inj Ty.str a0.snd.snd.fst]) fun r => ifs ((!r) = false) (ifs ((ByteArray.toList a0.snd.fst == ByteArray.toList a0.snd.snd.fst) = true) (some (injRs [RT.d (Ty.int Go.IntKind.i64)] (8 : Int))) (ifs ((a0.fst == (6 : Int)) = true) (ifs (decide (a0.snd.snd.snd.fst < (0 : Int)) = false) (ifs ((Go.IntKind.wrap Go.IntKind.i64 ((↑(List.length a0.snd.snd.snd.snd.fst) : Int) + (↑(List.length a0.snd.snd.snd.snd.snd) : Int)) == (0 : Int)) = false) (Option.bind (cR (nat_lit 94) [RT.d (Ty.int Go.IntKind.i64)] [inj (Ty.sl Ty.str) a0.snd.snd.snd.snd.fst]) fun r => ifs ((r != (0 : Int)) = false) (Option.bind (cR (nat_lit 94) [RT.d (Ty.int Go.IntKind.i64)] [inj (Ty.sl Ty.str) a0.snd.snd.snd.snd.snd]) fun r => ifs ((r != (0 : Int)) = true) (some (injRs [RT.d (Ty.int Go.IntKind.i64)] (6 : Int))) (some (injRs [RT.d (Ty.int Go.IntKind.i64)] (0 : Int)))) (some (injRs [RT.d (Ty.int Go.IntKind.i64)] (6 : Int)))) (some (injRs [RT.d (Ty.int Go.IntKind.i64)] (6 : Int)))) (some (injRs [RT.d (Ty.int Go.IntKind.i64)] (6 : Int)))) (some (injRs [RT.d (Ty.int Go.IntKind.i64)] (0 : Int))))) (some (injRs [RT.d (Ty.int Go.IntKind.i64)] (8 : Int)))) (ifs ((a0.fst == (6 : Int)) = true) (ifs (decide (a0.snd.snd.snd.fst < (0 : Int)) = false) (ifs ((Go.IntKind.wrap Go.IntKind.i64 ((↑(List.length a0.snd.snd.snd.snd.fst) : Int) + (↑(List.length a0.snd.snd.snd.snd.snd) : Int)) == (0 : Int)) = false) (Option.bind (cR (nat_lit 94) [RT.d (Ty.int Go.IntKind.i64)] [inj (Ty.sl Ty.str) a0.snd.snd.snd.snd.fst]) fun r => ifs ((r != (0 : Int)) = false) (Option.bind (cR (nat_lit 94) [RT.d (Ty.int Go.IntKind.i64)] [inj (Ty.sl Ty.str) a0.snd.snd.snd.snd.snd]) fun r => ifs ((r != (0 : Int)) = true) (some (injRs [RT.d (Ty.int Go.IntKind.i64)] (6 : Int))) (some (injRs [RT.d (Ty.int Go.IntKind.i64)] (0 : Int)))) (some (injRs [RT.d (Ty.int Go.IntKind.i64)] (6 : Int)))) (some (injRs [RT.d (Ty.int Go.IntKind.i64)] (6 : Int)))) (some (injRs [RT.d (Ty.int Go.IntKind.i64)] (6 : Int)))) (some (injRs [RT.d (Ty.int Go.IntKind.i64)] (0 : Int))))) (some (injRs [RT.d (Ty.int Go.IntKind.i64)] (8 : Int)))))) (some (injRs [RT.d (Ty.int Go.IntKind.i64)] (2 : Int)))) (some (injRs [RT.d (Ty.int Go.IntKind.i64)] (2 : Int))) := by kernel_rfl
theorem e21 (a0 : Int × ByteArray × ByteArray × Int × List ByteArray × List ByteArray) (a1 : Int × ByteArray × ByteArray × Int × List ByteArray × List ByteArray) : callG W0 (callW W0) (cutW W0) 21 [inj ty24 a0, inj ty24 a1] = ifs ((a0.fst != (6 : Int)) = false) (ifs ((a1.fst != (6 : Int)) = false) (ifs ((!ByteArray.toList a0.snd.fst == ByteArray.toList a1.snd.fst) = false) (Option.bind (cR (nat_lit 67) [RT.d (Ty.int Go.IntKind.i64)] [inj ty24 a0]) fun r => ifs ((r != (0 : Int)) = false) (Option.bind (cR (nat_lit 67) [RT.d (Ty.int Go.IntKind.i64)] [inj ty24 a1]) fun r => ifs ((r != (0 : Int)) = true) (some (injRs [RT.d Ty.bool] false)) (ifs (decide (Go.IntKind.wrap Go.IntKind.i64 (a1.snd.snd.snd.fst - a0.snd.snd.snd.fst) ≤ (↑(List.length a0.snd.snd.snd.snd.snd) : Int)) = true) (some (injRs [RT.d Ty.bool] (decide (Go.IntKind.wrap Go.IntKind.i64 (a0.snd.snd.snd.fst - a1.snd.snd.snd.fst) ≤ (↑(List.length a1.snd.snd.snd.snd.fst) : Int))))) (some (injRs [RT.d Ty.bool] false)))) (some (injRs [RT.d Ty.bool] false))) (some (injRs [RT.d Ty.bool] false))) (some (injRs [RT.d Ty.bool] false))) (some (injRs [RT.d Ty.bool] false)) := by kernel_rfl
theorem e71 (a0 : Int) (a1 : Int) : callG W0 (callW W0) (cutW W0) 71 [inj (Ty.int Go.IntKind.i64) a0, inj (Ty.int Go.IntKind.i64) a1] = ifs (decide (a0 < a1) = true) (some (injRs [RT.d (Ty.int Go.IntKind.i64)] a0)) (some (injRs [RT.d (Ty.int Go.IntKind.i64)] a1)) := by kernel_rfl
theorem e72 (a0 : Int) (a1 : Int) : callG W0 (callW W0) (cutW W0) 72 [inj (Ty.int Go.IntKind.i64) a0, inj (Ty.int Go.IntKind.i64) a1] = ifs (decide (a0 > a1) = true) (some (injRs [RT.d (Ty.int Go.IntKind.i64)] a0)) (some (injRs [RT.d (Ty.int Go.IntKind.i64)] a1)) := by kernel_rfl
theorem e68 (a0 : Int × ByteArray × ByteArray × Int × List ByteArray × List ByteArray) : callG W0 (callW W0) (cutW W0) 68 [inj ty24 a0] = ifs (decide (a0.fst ≥ (1 : Int)) = true) (ifs (decide (a0.fst ≤ (6 : Int)) = true) (ifs ((0 : Int) ≤ a0.fst ∧ a0.fst < (↑(7 : Nat) : Int)) (Option.bind [(0 : Int), (2 : Int), (1 : Int), (4 : Int), (3 : Int), (5 : Int), (6 : Int)][Int.toNat a0.fst]? fun r => ifs ((a0.fst == (5 : Int)) = true) (some (injRs [RT.d ty24] (r, a0.snd.snd.fst, a0.snd.fst, a0.snd.snd.snd.fst, a0.snd.snd.snd.snd.snd, a0.snd.snd.snd.snd.fst))) (some (injRs [RT.d ty24] (r, a0.snd.fst, a0.snd.snd.fst, a0.snd.snd.snd.fst, a0.snd.snd.snd.snd.snd, a0.snd.snd.snd.snd.fst)))) none) (ifs ((a0.fst == (5 : Int)) = true) (some (injRs [RT.d ty24] (a0.fst, a0.snd.snd.fst, a0.snd.fst, a0.snd.snd.snd.fst, a0.snd.snd.snd.snd.snd, a0.snd.snd.snd.snd.fst))) (some (injRs [RT.d ty24] (a0.fst, a0.snd.fst, a0.snd.snd.fst, a0.snd.snd.snd.fst, a0.snd.snd.snd.snd.snd, a0.snd.snd.snd.snd.fst))))) (ifs ((a0.fst == (5 : Int)) = true) (some (injRs [RT.d ty24] (a0.fst, a0.snd.snd.fst, a0.snd.fst, a0.snd.snd.snd.fst, a0.snd.snd.snd.snd.snd, a0.snd.snd.snd.snd.fst))) (some (injRs [RT.d ty24] (a0.fst, a0.snd.fst, a0.snd.snd.fst, a0.snd.snd.snd.fst, a0.snd.snd.snd.snd.snd, a0.snd.snd.snd.snd.fst)))) := by kernel_rfl
noncomputable def td19_8 : List Item := (findT (code Tryd.f19) [] 8).getD []
noncomputable def l19_8 (x0 : Bool) (x1 : Bool) (x2 : Int) (x3 : Int) (x4 : Int) (x5 : ByteArray) (x6 : ByteArray) (x7 : Int) (x8 : List ByteArray) (x9 : List ByteArray) (x10 : Int) (x11 : ByteArray) (x12 : ByteArray) (x13 : Int) (x14 : List ByteArray) (x15 : List ByteArray) (x16 : Int) (x17 : ByteArray) (x18 : ByteArray) (x19 : Int) (x20 : Int) (x21 : ByteArray) (x22 : ByteArray) (x23 : Int) (x24 : List ByteArray) (x25 : List ByteArray) : Option (List RV) := cutW W0 n19 td19_8 { fr := [((2 : Nat), F.a (A.c (C.pt (Pt.own (0 : Nat) (0 : Nat) (0 : Nat))))), ((3 : Nat), F.a (A.c (C.pt (Pt.own (1 : Nat) (0 : Nat) (0 : Nat))))), ((4 : Nat), F.a (A.c (C.pt (Pt.own (2 : Nat) (0 : Nat) (0 : Nat))))), ((6 : Nat), F.a (A.c (C.pt (Pt.own (3 : Nat) (0 : Nat) (0 : Nat))))), ((7 : Nat), F.a (A.c (C.sc (Go.Value.bool x0)))), ((8 : Nat), F.a (A.c (C.sc (Go.Value.bool x1)))), ((9 : Nat), F.a (A.c (C.sc (Go.Value.int Go.IntKind.i64 x2)))), ((10 : Nat), F.a (A.c (C.sc (Go.Value.int Go.IntKind.i64 x3))))], mem := [some (Row.box (24 : Nat) (some ty24) [C.sc (Go.Value.int Go.IntKind.i64 x4), C.sc (Go.Value.string x5), C.sc (Go.Value.string x6), C.sc (Go.Value.int Go.IntKind.i64 x7), C.sl Ty.str x8, C.sl Ty.str x9] false), some (Row.box (24 : Nat) (some ty24) [C.sc (Go.Value.int Go.IntKind.i64 x10), C.sc (Go.Value.string x11), C.sc (Go.Value.string x12), C.sc (Go.Value.int Go.IntKind.i64 x13), C.sl Ty.str x14, C.sl Ty.str x15] false), some (Row.box (24 : Nat) (some ty24) [C.sc (Go.Value.int Go.IntKind.i64 x16), C.sc (Go.Value.string x17), C.sc (Go.Value.string x18), C.sc (Go.Value.int Go.IntKind.i64 x19), C.nl, C.nl] false), some (Row.box (24 : Nat) (some ty24) [C.sc (Go.Value.int Go.IntKind.i64 x20), C.sc (Go.Value.string x21), C.sc (Go.Value.string x22), C.sc (Go.Value.int Go.IntKind.i64 x23), C.ow (4 : Nat) (List.length x24), C.ow (5 : Nat) (List.length x25)] false), some (Row.arr (9 : Nat) ((4 : Nat), (9 : Go.TypeId), Ty.str).snd.snd x24 false), some (Row.arr (9 : Nat) ((5 : Nat), (9 : Go.TypeId), Ty.str).snd.snd x25 false)], nx := (6 : Nat) }
noncomputable def td19_13 : List Item := (findT (code Tryd.f19) [] 13).getD []
noncomputable def l19_13 (x0 : Bool) (x1 : Bool) (x2 : Int) (x3 : Int) (x4 : Int) (x5 : ByteArray) (x6 : ByteArray) (x7 : Int) (x8 : List ByteArray) (x9 : List ByteArray) (x10 : Int) (x11 : ByteArray) (x12 : ByteArray) (x13 : Int) (x14 : List ByteArray) (x15 : List ByteArray) (x16 : Int) (x17 : ByteArray) (x18 : ByteArray) (x19 : Int) (x20 : Int) (x21 : ByteArray) (x22 : ByteArray) (x23 : Int) (x24 : List ByteArray) (x25 : List ByteArray) : Option (List RV) := cutW W0 n19 td19_13 { fr := [((2 : Nat), F.a (A.c (C.pt (Pt.own (0 : Nat) (0 : Nat) (0 : Nat))))), ((3 : Nat), F.a (A.c (C.pt (Pt.own (1 : Nat) (0 : Nat) (0 : Nat))))), ((4 : Nat), F.a (A.c (C.pt (Pt.own (2 : Nat) (0 : Nat) (0 : Nat))))), ((6 : Nat), F.a (A.c (C.pt (Pt.own (3 : Nat) (0 : Nat) (0 : Nat))))), ((7 : Nat), F.a (A.c (C.sc (Go.Value.bool x0)))), ((8 : Nat), F.a (A.c (C.sc (Go.Value.bool x1)))), ((9 : Nat), F.a (A.c (C.sc (Go.Value.int Go.IntKind.i64 x2)))), ((10 : Nat), F.a (A.c (C.sc (Go.Value.int Go.IntKind.i64 x3))))], mem := [some (Row.box (24 : Nat) (some ty24) [C.sc (Go.Value.int Go.IntKind.i64 x4), C.sc (Go.Value.string x5), C.sc (Go.Value.string x6), C.sc (Go.Value.int Go.IntKind.i64 x7), C.sl Ty.str x8, C.sl Ty.str x9] false), some (Row.box (24 : Nat) (some ty24) [C.sc (Go.Value.int Go.IntKind.i64 x10), C.sc (Go.Value.string x11), C.sc (Go.Value.string x12), C.sc (Go.Value.int Go.IntKind.i64 x13), C.sl Ty.str x14, C.sl Ty.str x15] false), some (Row.box (24 : Nat) (some ty24) [C.sc (Go.Value.int Go.IntKind.i64 x16), C.sc (Go.Value.string x17), C.sc (Go.Value.string x18), C.sc (Go.Value.int Go.IntKind.i64 x19), C.nl, C.nl] false), some (Row.box (24 : Nat) (some ty24) [C.sc (Go.Value.int Go.IntKind.i64 x20), C.sc (Go.Value.string x21), C.sc (Go.Value.string x22), C.sc (Go.Value.int Go.IntKind.i64 x23), C.ow (4 : Nat) (List.length x24), C.ow (5 : Nat) (List.length x25)] false), some (Row.arr (9 : Nat) Ty.str x24 false), some (Row.arr (9 : Nat) ((5 : Nat), (9 : Go.TypeId), Ty.str).snd.snd x25 false)], nx := (6 : Nat) }
noncomputable def td19_16 : List Item := (findT (code Tryd.f19) [] 16).getD []
noncomputable def l19_16 (x0 : Bool) (x1 : Bool) (x2 : Int) (x3 : Int) (x4 : Int) (x5 : ByteArray) (x6 : ByteArray) (x7 : Int) (x8 : List ByteArray) (x9 : List ByteArray) (x10 : Int) (x11 : ByteArray) (x12 : ByteArray) (x13 : Int) (x14 : List ByteArray) (x15 : List ByteArray) (x16 : Int) (x17 : ByteArray) (x18 : ByteArray) (x19 : Int) (x20 : Int) (x21 : ByteArray) (x22 : ByteArray) (x23 : Int) (x24 : List ByteArray) (x25 : List ByteArray) : Option (List RV) := cutW W0 n19 td19_16 { fr := [((2 : Nat), F.a (A.c (C.pt (Pt.own (0 : Nat) (0 : Nat) (0 : Nat))))), ((3 : Nat), F.a (A.c (C.pt (Pt.own (1 : Nat) (0 : Nat) (0 : Nat))))), ((4 : Nat), F.a (A.c (C.pt (Pt.own (2 : Nat) (0 : Nat) (0 : Nat))))), ((6 : Nat), F.a (A.c (C.pt (Pt.own (3 : Nat) (0 : Nat) (0 : Nat))))), ((7 : Nat), F.a (A.c (C.sc (Go.Value.bool x0)))), ((8 : Nat), F.a (A.c (C.sc (Go.Value.bool x1)))), ((9 : Nat), F.a (A.c (C.sc (Go.Value.int Go.IntKind.i64 x2)))), ((10 : Nat), F.a (A.c (C.sc (Go.Value.int Go.IntKind.i64 x3))))], mem := [some (Row.box (24 : Nat) (some ty24) [C.sc (Go.Value.int Go.IntKind.i64 x4), C.sc (Go.Value.string x5), C.sc (Go.Value.string x6), C.sc (Go.Value.int Go.IntKind.i64 x7), C.sl Ty.str x8, C.sl Ty.str x9] false), some (Row.box (24 : Nat) (some ty24) [C.sc (Go.Value.int Go.IntKind.i64 x10), C.sc (Go.Value.string x11), C.sc (Go.Value.string x12), C.sc (Go.Value.int Go.IntKind.i64 x13), C.sl Ty.str x14, C.sl Ty.str x15] false), some (Row.box (24 : Nat) (some ty24) [C.sc (Go.Value.int Go.IntKind.i64 x16), C.sc (Go.Value.string x17), C.sc (Go.Value.string x18), C.sc (Go.Value.int Go.IntKind.i64 x19), C.nl, C.nl] false), some (Row.box (24 : Nat) (some ty24) [C.sc (Go.Value.int Go.IntKind.i64 x20), C.sc (Go.Value.string x21), C.sc (Go.Value.string x22), C.sc (Go.Value.int Go.IntKind.i64 x23), C.ow (4 : Nat) (List.length x24), C.ow (5 : Nat) (List.length x25)] false), some (Row.arr (9 : Nat) Ty.str x24 false), some (Row.arr (9 : Nat) Ty.str x25 false)], nx := (6 : Nat) }
noncomputable def td19_17 : List Item := (findT (code Tryd.f19) [] 17).getD []
noncomputable def l19_17 (x0 : Bool) (x1 : Bool) (x2 : Int) (x3 : Int) (x4 : Bool) (x5 : Int) (x6 : ByteArray) (x7 : ByteArray) (x8 : Int) (x9 : List ByteArray) (x10 : List ByteArray) (x11 : Int) (x12 : ByteArray) (x13 : ByteArray) (x14 : Int) (x15 : List ByteArray) (x16 : List ByteArray) (x17 : Int) (x18 : ByteArray) (x19 : ByteArray) (x20 : Int) (x21 : Int) (x22 : ByteArray) (x23 : ByteArray) (x24 : Int) (x25 : List ByteArray) (x26 : List ByteArray) : Option (List RV) := cutW W0 n19 td19_17 { fr := [((2 : Nat), F.a (A.c (C.pt (Pt.own (0 : Nat) (0 : Nat) (0 : Nat))))), ((3 : Nat), F.a (A.c (C.pt (Pt.own (1 : Nat) (0 : Nat) (0 : Nat))))), ((4 : Nat), F.a (A.c (C.pt (Pt.own (2 : Nat) (0 : Nat) (0 : Nat))))), ((6 : Nat), F.a (A.c (C.pt (Pt.own (3 : Nat) (0 : Nat) (0 : Nat))))), ((7 : Nat), F.a (A.c (C.sc (Go.Value.bool x0)))), ((8 : Nat), F.a (A.c (C.sc (Go.Value.bool x1)))), ((9 : Nat), F.a (A.c (C.sc (Go.Value.int Go.IntKind.i64 x2)))), ((10 : Nat), F.a (A.c (C.sc (Go.Value.int Go.IntKind.i64 x3)))), ((11 : Nat), F.a (A.c (C.sc (Go.Value.bool x4))))], mem := [some (Row.box (24 : Nat) (some ty24) [C.sc (Go.Value.int Go.IntKind.i64 x5), C.sc (Go.Value.string x6), C.sc (Go.Value.string x7), C.sc (Go.Value.int Go.IntKind.i64 x8), C.sl Ty.str x9, C.sl Ty.str x10] false), some (Row.box (24 : Nat) (some ty24) [C.sc (Go.Value.int Go.IntKind.i64 x11), C.sc (Go.Value.string x12), C.sc (Go.Value.string x13), C.sc (Go.Value.int Go.IntKind.i64 x14), C.sl Ty.str x15, C.sl Ty.str x16] false), some (Row.box (24 : Nat) (some ty24) [C.sc (Go.Value.int Go.IntKind.i64 x17), C.sc (Go.Value.string x18), C.sc (Go.Value.string x19), C.sc (Go.Value.int Go.IntKind.i64 x20), C.nl, C.nl] false), some (Row.box (24 : Nat) (some ty24) [C.sc (Go.Value.int Go.IntKind.i64 x21), C.sc (Go.Value.string x22), C.sc (Go.Value.string x23), C.sc (Go.Value.int Go.IntKind.i64 x24), C.ow (4 : Nat) (List.length x25), C.ow (5 : Nat) (List.length x26)] false), some (Row.arr (9 : Nat) Ty.str x25 false), some (Row.arr (9 : Nat) Ty.str x26 false)], nx := (6 : Nat) }
noncomputable def td19_18 : List Item := (findT (code Tryd.f19) [] 18).getD []
noncomputable def l19_18 (x0 : Bool) (x1 : Bool) (x2 : Int) (x3 : Int) (x4 : Bool) (x5 : Bool) (x6 : Int) (x7 : ByteArray) (x8 : ByteArray) (x9 : Int) (x10 : List ByteArray) (x11 : List ByteArray) (x12 : Int) (x13 : ByteArray) (x14 : ByteArray) (x15 : Int) (x16 : List ByteArray) (x17 : List ByteArray) (x18 : Int) (x19 : ByteArray) (x20 : ByteArray) (x21 : Int) (x22 : Int) (x23 : ByteArray) (x24 : ByteArray) (x25 : Int) (x26 : List ByteArray) (x27 : List ByteArray) : Option (List RV) := cutW W0 n19 td19_18 { fr := [((2 : Nat), F.a (A.c (C.pt (Pt.own (0 : Nat) (0 : Nat) (0 : Nat))))), ((3 : Nat), F.a (A.c (C.pt (Pt.own (1 : Nat) (0 : Nat) (0 : Nat))))), ((4 : Nat), F.a (A.c (C.pt (Pt.own (2 : Nat) (0 : Nat) (0 : Nat))))), ((6 : Nat), F.a (A.c (C.pt (Pt.own (3 : Nat) (0 : Nat) (0 : Nat))))), ((7 : Nat), F.a (A.c (C.sc (Go.Value.bool x0)))), ((8 : Nat), F.a (A.c (C.sc (Go.Value.bool x1)))), ((9 : Nat), F.a (A.c (C.sc (Go.Value.int Go.IntKind.i64 x2)))), ((10 : Nat), F.a (A.c (C.sc (Go.Value.int Go.IntKind.i64 x3)))), ((11 : Nat), F.a (A.c (C.sc (Go.Value.bool x4)))), ((12 : Nat), F.a (A.c (C.sc (Go.Value.bool x5))))], mem := [some (Row.box (24 : Nat) (some ty24) [C.sc (Go.Value.int Go.IntKind.i64 x6), C.sc (Go.Value.string x7), C.sc (Go.Value.string x8), C.sc (Go.Value.int Go.IntKind.i64 x9), C.sl Ty.str x10, C.sl Ty.str x11] false), some (Row.box (24 : Nat) (some ty24) [C.sc (Go.Value.int Go.IntKind.i64 x12), C.sc (Go.Value.string x13), C.sc (Go.Value.string x14), C.sc (Go.Value.int Go.IntKind.i64 x15), C.sl Ty.str x16, C.sl Ty.str x17] false), some (Row.box (24 : Nat) (some ty24) [C.sc (Go.Value.int Go.IntKind.i64 x18), C.sc (Go.Value.string x19), C.sc (Go.Value.string x20), C.sc (Go.Value.int Go.IntKind.i64 x21), C.nl, C.nl] false), some (Row.box (24 : Nat) (some ty24) [C.sc (Go.Value.int Go.IntKind.i64 x22), C.sc (Go.Value.string x23), C.sc (Go.Value.string x24), C.sc (Go.Value.int Go.IntKind.i64 x25), C.ow (4 : Nat) (List.length x26), C.ow (5 : Nat) (List.length x27)] false), some (Row.arr (9 : Nat) Ty.str x26 false), some (Row.arr (9 : Nat) Ty.str x27 false)], nx := (6 : Nat) }
noncomputable def td19_20 : List Item := (findT (code Tryd.f19) [] 20).getD []
noncomputable def l19_20 (x0 : Bool) (x1 : Bool) (x2 : Int) (x3 : Int) (x4 : Bool) (x5 : Bool) (x6 : Int) (x7 : ByteArray) (x8 : ByteArray) (x9 : Int) (x10 : List ByteArray) (x11 : List ByteArray) (x12 : Int) (x13 : ByteArray) (x14 : ByteArray) (x15 : Int) (x16 : List ByteArray) (x17 : List ByteArray) (x18 : Int) (x19 : ByteArray) (x20 : ByteArray) (x21 : Int) (x22 : Int) (x23 : ByteArray) (x24 : ByteArray) (x25 : Int) (x26 : List ByteArray) (x27 : List ByteArray) : Option (List RV) := cutW W0 n19 td19_20 { fr := [((2 : Nat), F.a (A.c (C.pt (Pt.own (0 : Nat) (0 : Nat) (0 : Nat))))), ((3 : Nat), F.a (A.c (C.pt (Pt.own (1 : Nat) (0 : Nat) (0 : Nat))))), ((4 : Nat), F.a (A.c (C.pt (Pt.own (2 : Nat) (0 : Nat) (0 : Nat))))), ((6 : Nat), F.a (A.c (C.pt (Pt.own (3 : Nat) (0 : Nat) (0 : Nat))))), ((7 : Nat), F.a (A.c (C.sc (Go.Value.bool x0)))), ((8 : Nat), F.a (A.c (C.sc (Go.Value.bool x1)))), ((9 : Nat), F.a (A.c (C.sc (Go.Value.int Go.IntKind.i64 x2)))), ((10 : Nat), F.a (A.c (C.sc (Go.Value.int Go.IntKind.i64 x3)))), ((11 : Nat), F.a (A.c (C.sc (Go.Value.bool x4)))), ((12 : Nat), F.a (A.c (C.sc (Go.Value.bool x5))))], mem := [some (Row.box (24 : Nat) (some ty24) [C.sc (Go.Value.int Go.IntKind.i64 x6), C.sc (Go.Value.string x7), C.sc (Go.Value.string x8), C.sc (Go.Value.int Go.IntKind.i64 x9), C.sl Ty.str x10, C.sl Ty.str x11] false), some (Row.box (24 : Nat) (some ty24) [C.sc (Go.Value.int Go.IntKind.i64 x12), C.sc (Go.Value.string x13), C.sc (Go.Value.string x14), C.sc (Go.Value.int Go.IntKind.i64 x15), C.sl Ty.str x16, C.sl Ty.str x17] false), some (Row.box (24 : Nat) (some ty24) [C.sc (Go.Value.int Go.IntKind.i64 x18), C.sc (Go.Value.string x19), C.sc (Go.Value.string x20), C.sc (Go.Value.int Go.IntKind.i64 x21), C.nl, C.nl] false), some (Row.box (24 : Nat) (some ty24) [C.sc (Go.Value.int Go.IntKind.i64 x22), C.sc (Go.Value.string x23), C.sc (Go.Value.string x24), C.sc (Go.Value.int Go.IntKind.i64 x25), C.ow (4 : Nat) (List.length x26), C.ow (5 : Nat) (List.length x27)] false), some (Row.arr (9 : Nat) Ty.str x26 false), some (Row.arr (9 : Nat) Ty.str x27 false)], nx := (6 : Nat) }
noncomputable def td19_22 : List Item := (findT (code Tryd.f19) [] 22).getD []
noncomputable def l19_22 (x0 : Bool) (x1 : Bool) (x2 : Int) (x3 : Int) (x4 : Bool) (x5 : Bool) (x6 : Int) (x7 : ByteArray) (x8 : ByteArray) (x9 : Int) (x10 : List ByteArray) (x11 : List ByteArray) (x12 : Int) (x13 : ByteArray) (x14 : ByteArray) (x15 : Int) (x16 : List ByteArray) (x17 : List ByteArray) (x18 : Int) (x19 : ByteArray) (x20 : ByteArray) (x21 : Int) (x22 : Int) (x23 : ByteArray) (x24 : ByteArray) (x25 : Int) (x26 : List ByteArray) (x27 : List ByteArray) : Option (List RV) := cutW W0 n19 td19_22 { fr := [((2 : Nat), F.a (A.c (C.pt (Pt.own (0 : Nat) (0 : Nat) (0 : Nat))))), ((3 : Nat), F.a (A.c (C.pt (Pt.own (1 : Nat) (0 : Nat) (0 : Nat))))), ((4 : Nat), F.a (A.c (C.pt (Pt.own (2 : Nat) (0 : Nat) (0 : Nat))))), ((6 : Nat), F.a (A.c (C.pt (Pt.own (3 : Nat) (0 : Nat) (0 : Nat))))), ((7 : Nat), F.a (A.c (C.sc (Go.Value.bool x0)))), ((8 : Nat), F.a (A.c (C.sc (Go.Value.bool x1)))), ((9 : Nat), F.a (A.c (C.sc (Go.Value.int Go.IntKind.i64 x2)))), ((10 : Nat), F.a (A.c (C.sc (Go.Value.int Go.IntKind.i64 x3)))), ((11 : Nat), F.a (A.c (C.sc (Go.Value.bool x4)))), ((12 : Nat), F.a (A.c (C.sc (Go.Value.bool x5))))], mem := [some (Row.box (24 : Nat) (some ty24) [C.sc (Go.Value.int Go.IntKind.i64 x6), C.sc (Go.Value.string x7), C.sc (Go.Value.string x8), C.sc (Go.Value.int Go.IntKind.i64 x9), C.sl Ty.str x10, C.sl Ty.str x11] false), some (Row.box (24 : Nat) (some ty24) [C.sc (Go.Value.int Go.IntKind.i64 x12), C.sc (Go.Value.string x13), C.sc (Go.Value.string x14), C.sc (Go.Value.int Go.IntKind.i64 x15), C.sl Ty.str x16, C.sl Ty.str x17] false), some (Row.box (24 : Nat) (some ty24) [C.sc (Go.Value.int Go.IntKind.i64 x18), C.sc (Go.Value.string x19), C.sc (Go.Value.string x20), C.sc (Go.Value.int Go.IntKind.i64 x21), C.nl, C.nl] false), some (Row.box (24 : Nat) (some ty24) [C.sc (Go.Value.int Go.IntKind.i64 x22), C.sc (Go.Value.string x23), C.sc (Go.Value.string x24), C.sc (Go.Value.int Go.IntKind.i64 x25), C.ow (4 : Nat) (List.length x26), C.ow (5 : Nat) (List.length x27)] false), some (Row.arr (9 : Nat) Ty.str x26 false), some (Row.arr (9 : Nat) Ty.str x27 false)], nx := (6 : Nat) }
noncomputable def td19_9 : List Item := (findT (code Tryd.f19) [] 9).getD []
noncomputable def l19_9 (x0 : Bool) (x1 : Bool) (x2 : Int) (x3 : Int) (x4 : Int) (x5 : ByteArray) (x6 : ByteArray) (x7 : Int) (x8 : List ByteArray) (x9 : List ByteArray) (x10 : Int) (x11 : ByteArray) (x12 : ByteArray) (x13 : Int) (x14 : List ByteArray) (x15 : List ByteArray) (x16 : Int) (x17 : ByteArray) (x18 : ByteArray) (x19 : Int) (x20 : Int) (x21 : ByteArray) (x22 : ByteArray) (x23 : Int) (x24 : List ByteArray) (x25 : List ByteArray) : Option (List RV) := cutW W0 n19 td19_9 { fr := [((2 : Nat), F.a (A.c (C.pt (Pt.own (0 : Nat) (0 : Nat) (0 : Nat))))), ((3 : Nat), F.a (A.c (C.pt (Pt.own (1 : Nat) (0 : Nat) (0 : Nat))))), ((4 : Nat), F.a (A.c (C.pt (Pt.own (2 : Nat) (0 : Nat) (0 : Nat))))), ((6 : Nat), F.a (A.c (C.pt (Pt.own (3 : Nat) (0 : Nat) (0 : Nat))))), ((7 : Nat), F.a (A.c (C.sc (Go.Value.bool x0)))), ((8 : Nat), F.a (A.c (C.sc (Go.Value.bool x1)))), ((9 : Nat), F.a (A.c (C.sc (Go.Value.int Go.IntKind.i64 x2)))), ((10 : Nat), F.a (A.c (C.sc (Go.Value.int Go.IntKind.i64 x3))))], mem := [some (Row.box (24 : Nat) (some ty24) [C.sc (Go.Value.int Go.IntKind.i64 x4), C.sc (Go.Value.string x5), C.sc (Go.Value.string x6), C.sc (Go.Value.int Go.IntKind.i64 x7), C.sl Ty.str x8, C.sl Ty.str x9] false), some (Row.box (24 : Nat) (some ty24) [C.sc (Go.Value.int Go.IntKind.i64 x10), C.sc (Go.Value.string x11), C.sc (Go.Value.string x12), C.sc (Go.Value.int Go.IntKind.i64 x13), C.sl Ty.str x14, C.sl Ty.str x15] false), some (Row.box (24 : Nat) (some ty24) [C.sc (Go.Value.int Go.IntKind.i64 x16), C.sc (Go.Value.string x17), C.sc (Go.Value.string x18), C.sc (Go.Value.int Go.IntKind.i64 x19), C.nl, C.nl] false), some (Row.box (24 : Nat) (some ty24) [C.sc (Go.Value.int Go.IntKind.i64 x20), C.sc (Go.Value.string x21), C.sc (Go.Value.string x22), C.sc (Go.Value.int Go.IntKind.i64 x23), C.ow (4 : Nat) (List.length x24), C.ow (5 : Nat) (List.length x25)] false), some (Row.arr (9 : Nat) Ty.str x24 false), some (Row.arr (9 : Nat) Ty.str x25 false)], nx := (6 : Nat) }
theorem e19 (a0 : Int × ByteArray × ByteArray × Int × List ByteArray × List ByteArray) (a1 : Int × ByteArray × ByteArray × Int × List ByteArray × List ByteArray) : callG W0 (callW W0) (cutW W0) 19 [inj ty24 a0, inj ty24 a1] = Option.bind (cR (nat_lit 21) [RT.d Ty.bool] [inj ty24 a0, inj ty24 a1]) fun r => ifs ((!r) = true) (some (injRs [RT.d ty24, RT.d Ty.bool] (((0 : Int), { data := #[] }, { data := #[] }, (0 : Int), [], []), false))) (Option.bind (cR (nat_lit 71) [RT.d (Ty.int Go.IntKind.i64)] [inj (Ty.int Go.IntKind.i64) a0.snd.snd.snd.fst, inj (Ty.int Go.IntKind.i64) a1.snd.snd.snd.fst]) fun r => Option.bind (cR (nat_lit 72) [RT.d (Ty.int Go.IntKind.i64)] [inj (Ty.int Go.IntKind.i64) (Go.IntKind.wrap Go.IntKind.i64 (a0.snd.snd.snd.fst + (↑(List.length a0.snd.snd.snd.snd.snd) : Int))), inj (Ty.int Go.IntKind.i64) (Go.IntKind.wrap Go.IntKind.i64 (a1.snd.snd.snd.fst + (↑(List.length a1.snd.snd.snd.snd.fst) : Int)))]) fun r_1 => l19_8 false false r_1 r a0.fst a0.snd.fst a0.snd.snd.fst a0.snd.snd.snd.fst a0.snd.snd.snd.snd.fst a0.snd.snd.snd.snd.snd a1.fst a1.snd.fst a1.snd.snd.fst a1.snd.snd.snd.fst a1.snd.snd.snd.snd.fst a1.snd.snd.snd.snd.snd (0 : Int) { data := #[] } { data := #[] } (0 : Int) (6 : Int) a0.snd.fst { data := #[] } r [] []) := by kernel_rfl
theorem q19_8 (x0 : Bool) (x1 : Bool) (x2 : Int) (x3 : Int) (x4 : Int) (x5 : ByteArray) (x6 : ByteArray) (x7 : Int) (x8 : List ByteArray) (x9 : List ByteArray) (x10 : Int) (x11 : ByteArray) (x12 : ByteArray) (x13 : Int) (x14 : List ByteArray) (x15 : List ByteArray) (x16 : Int) (x17 : ByteArray) (x18 : ByteArray) (x19 : Int) (x20 : Int) (x21 : ByteArray) (x22 : ByteArray) (x23 : Int) (x24 : List ByteArray) (x25 : List ByteArray) : cutG W0 (callW W0) (cutW W0) n19 td19_8 { fr := [((2 : Nat), F.a (A.c (C.pt (Pt.own (0 : Nat) (0 : Nat) (0 : Nat))))), ((3 : Nat), F.a (A.c (C.pt (Pt.own (1 : Nat) (0 : Nat) (0 : Nat))))), ((4 : Nat), F.a (A.c (C.pt (Pt.own (2 : Nat) (0 : Nat) (0 : Nat))))), ((6 : Nat), F.a (A.c (C.pt (Pt.own (3 : Nat) (0 : Nat) (0 : Nat))))), ((7 : Nat), F.a (A.c (C.sc (Go.Value.bool x0)))), ((8 : Nat), F.a (A.c (C.sc (Go.Value.bool x1)))), ((9 : Nat), F.a (A.c (C.sc (Go.Value.int Go.IntKind.i64 x2)))), ((10 : Nat), F.a (A.c (C.sc (Go.Value.int Go.IntKind.i64 x3))))], mem := [some (Row.box (24 : Nat) (some ty24) [C.sc (Go.Value.int Go.IntKind.i64 x4), C.sc (Go.Value.string x5), C.sc (Go.Value.string x6), C.sc (Go.Value.int Go.IntKind.i64 x7), C.sl Ty.str x8, C.sl Ty.str x9] false), some (Row.box (24 : Nat) (some ty24) [C.sc (Go.Value.int Go.IntKind.i64 x10), C.sc (Go.Value.string x11), C.sc (Go.Value.string x12), C.sc (Go.Value.int Go.IntKind.i64 x13), C.sl Ty.str x14, C.sl Ty.str x15] false), some (Row.box (24 : Nat) (some ty24) [C.sc (Go.Value.int Go.IntKind.i64 x16), C.sc (Go.Value.string x17), C.sc (Go.Value.string x18), C.sc (Go.Value.int Go.IntKind.i64 x19), C.nl, C.nl] false), some (Row.box (24 : Nat) (some ty24) [C.sc (Go.Value.int Go.IntKind.i64 x20), C.sc (Go.Value.string x21), C.sc (Go.Value.string x22), C.sc (Go.Value.int Go.IntKind.i64 x23), C.ow (4 : Nat) (List.length x24), C.ow (5 : Nat) (List.length x25)] false), some (Row.arr (9 : Nat) ((4 : Nat), (9 : Go.TypeId), Ty.str).snd.snd x24 false), some (Row.arr (9 : Nat) ((5 : Nat), (9 : Go.TypeId), Ty.str).snd.snd x25 false)], nx := (6 : Nat) } = ifs (decide (x3 ≤ x2) = true) (ifs ((x3 == x7) = true) (ifs ((!x0) = true) (ifs ((List.length x24 + List.length x8) * nat_lit 16 ≤ (140737488355328 : Nat)) (l19_13 true x1 x2 x3 x4 x5 x6 x7 x8 x9 x10 x11 x12 x13 x14 x15 x16 x17 x18 x19 x20 x21 x22 x23 (List.take (List.length x24) x24 ++ x8) x25) none) (l19_13 x0 x1 x2 x3 x4 x5 x6 x7 x8 x9 x10 x11 x12 x13 x14 x15 x16 x17 x18 x19 x20 x21 x22 x23 x24 x25)) (l19_13 x0 x1 x2 x3 x4 x5 x6 x7 x8 x9 x10 x11 x12 x13 x14 x15 x16 x17 x18 x19 x20 x21 x22 x23 x24 x25)) (some (injRs [RT.d ty24, RT.d Ty.bool] ((x20, x21, x22, x23, List.take (List.length x24) x24, List.take (List.length x25) x25), true))) := by kernel_rfl
theorem q19_13 (x0 : Bool) (x1 : Bool) (x2 : Int) (x3 : Int) (x4 : Int) (x5 : ByteArray) (x6 : ByteArray) (x7 : Int) (x8 : List ByteArray) (x9 : List ByteArray) (x10 : Int) (x11 : ByteArray) (x12 : ByteArray) (x13 : Int) (x14 : List ByteArray) (x15 : List ByteArray) (x16 : Int) (x17 : ByteArray) (x18 : ByteArray) (x19 : Int) (x20 : Int) (x21 : ByteArray) (x22 : ByteArray) (x23 : Int) (x24 : List ByteArray) (x25 : List ByteArray) : cutG W0 (callW W0) (cutW W0) n19 td19_13 { fr := [((2 : Nat), F.a (A.c (C.pt (Pt.own (0 : Nat) (0 : Nat) (0 : Nat))))), ((3 : Nat), F.a (A.c (C.pt (Pt.own (1 : Nat) (0 : Nat) (0 : Nat))))), ((4 : Nat), F.a (A.c (C.pt (Pt.own (2 : Nat) (0 : Nat) (0 : Nat))))), ((6 : Nat), F.a (A.c (C.pt (Pt.own (3 : Nat) (0 : Nat) (0 : Nat))))), ((7 : Nat), F.a (A.c (C.sc (Go.Value.bool x0)))), ((8 : Nat), F.a (A.c (C.sc (Go.Value.bool x1)))), ((9 : Nat), F.a (A.c (C.sc (Go.Value.int Go.IntKind.i64 x2)))), ((10 : Nat), F.a (A.c (C.sc (Go.Value.int Go.IntKind.i64 x3))))], mem := [some (Row.box (24 : Nat) (some ty24) [C.sc (Go.Value.int Go.IntKind.i64 x4), C.sc (Go.Value.string x5), C.sc (Go.Value.string x6), C.sc (Go.Value.int Go.IntKind.i64 x7), C.sl Ty.str x8, C.sl Ty.str x9] false), some (Row.box (24 : Nat) (some ty24) [C.sc (Go.Value.int Go.IntKind.i64 x10), C.sc (Go.Value.string x11), C.sc (Go.Value.string x12), C.sc (Go.Value.int Go.IntKind.i64 x13), C.sl Ty.str x14, C.sl Ty.str x15] false), some (Row.box (24 : Nat) (some ty24) [C.sc (Go.Value.int Go.IntKind.i64 x16), C.sc (Go.Value.string x17), C.sc (Go.Value.string x18), C.sc (Go.Value.int Go.IntKind.i64 x19), C.nl, C.nl] false), some (Row.box (24 : Nat) (some ty24) [C.sc (Go.Value.int Go.IntKind.i64 x20), C.sc (Go.Value.string x21), C.sc (Go.Value.string x22), C.sc (Go.Value.int Go.IntKind.i64 x23), C.ow (4 : Nat) (List.length x24), C.ow (5 : Nat) (List.length x25)] false), some (Row.arr (9 : Nat) Ty.str x24 false), some (Row.arr (9 : Nat) ((5 : Nat), (9 : Go.TypeId), Ty.str).snd.snd x25 false)], nx := (6 : Nat) } = ifs ((x3 == x13) = true) (ifs ((!x1) = true) (ifs ((List.length x25 + List.length x15) * nat_lit 16 ≤ (140737488355328 : Nat)) (l19_16 x0 true x2 x3 x4 x5 x6 x7 x8 x9 x10 x11 x12 x13 x14 x15 x16 x17 x18 x19 x20 x21 x22 x23 x24 (List.take (List.length x25) x25 ++ x15)) none) (l19_16 x0 x1 x2 x3 x4 x5 x6 x7 x8 x9 x10 x11 x12 x13 x14 x15 x16 x17 x18 x19 x20 x21 x22 x23 x24 x25)) (l19_16 x0 x1 x2 x3 x4 x5 x6 x7 x8 x9 x10 x11 x12 x13 x14 x15 x16 x17 x18 x19 x20 x21 x22 x23 x24 x25) := by kernel_rfl
theorem q19_16 (x0 : Bool) (x1 : Bool) (x2 : Int) (x3 : Int) (x4 : Int) (x5 : ByteArray) (x6 : ByteArray) (x7 : Int) (x8 : List ByteArray) (x9 : List ByteArray) (x10 : Int) (x11 : ByteArray) (x12 : ByteArray) (x13 : Int) (x14 : List ByteArray) (x15 : List ByteArray) (x16 : Int) (x17 : ByteArray) (x18 : ByteArray) (x19 : Int) (x20 : Int) (x21 : ByteArray) (x22 : ByteArray) (x23 : Int) (x24 : List ByteArray) (x25 : List ByteArray) : cutG W0 (callW W0) (cutW W0) n19 td19_16 { fr := [((2 : Nat), F.a (A.c (C.pt (Pt.own (0 : Nat) (0 : Nat) (0 : Nat))))), ((3 : Nat), F.a (A.c (C.pt (Pt.own (1 : Nat) (0 : Nat) (0 : Nat))))), ((4 : Nat), F.a (A.c (C.pt (Pt.own (2 : Nat) (0 : Nat) (0 : Nat))))), ((6 : Nat), F.a (A.c (C.pt (Pt.own (3 : Nat) (0 : Nat) (0 : Nat))))), ((7 : Nat), F.a (A.c (C.sc (Go.Value.bool x0)))), ((8 : Nat), F.a (A.c (C.sc (Go.Value.bool x1)))), ((9 : Nat), F.a (A.c (C.sc (Go.Value.int Go.IntKind.i64 x2)))), ((10 : Nat), F.a (A.c (C.sc (Go.Value.int Go.IntKind.i64 x3))))], mem := [some (Row.box (24 : Nat) (some ty24) [C.sc (Go.Value.int Go.IntKind.i64 x4), C.sc (Go.Value.string x5), C.sc (Go.Value.string x6), C.sc (Go.Value.int Go.IntKind.i64 x7), C.sl Ty.str x8, C.sl Ty.str x9] false), some (Row.box (24 : Nat) (some ty24) [C.sc (Go.Value.int Go.IntKind.i64 x10), C.sc (Go.Value.string x11), C.sc (Go.Value.string x12), C.sc (Go.Value.int Go.IntKind.i64 x13), C.sl Ty.str x14, C.sl Ty.str x15] false), some (Row.box (24 : Nat) (some ty24) [C.sc (Go.Value.int Go.IntKind.i64 x16), C.sc (Go.Value.string x17), C.sc (Go.Value.string x18), C.sc (Go.Value.int Go.IntKind.i64 x19), C.nl, C.nl] false), some (Row.box (24 : Nat) (some ty24) [C.sc (Go.Value.int Go.IntKind.i64 x20), C.sc (Go.Value.string x21), C.sc (Go.Value.string x22), C.sc (Go.Value.int Go.IntKind.i64 x23), C.ow (4 : Nat) (List.length x24), C.ow (5 : Nat) (List.length x25)] false), some (Row.arr (9 : Nat) Ty.str x24 false), some (Row.arr (9 : Nat) Ty.str x25 false)], nx := (6 : Nat) } = ifs (decide (x3 ≥ x7) = true) (l19_17 x0 x1 x2 x3 (decide (x3 < Go.IntKind.wrap Go.IntKind.i64 (x7 + (↑(List.length x9) : Int)))) x4 x5 x6 x7 x8 x9 x10 x11 x12 x13 x14 x15 x16 x17 x18 x19 x20 x21 x22 x23 x24 x25) (l19_17 x0 x1 x2 x3 false x4 x5 x6 x7 x8 x9 x10 x11 x12 x13 x14 x15 x16 x17 x18 x19 x20 x21 x22 x23 x24 x25) := by kernel_rfl
theorem q19_17 (x0 : Bool) (x1 : Bool) (x2 : Int) (x3 : Int) (x4 : Bool) (x5 : Int) (x6 : ByteArray) (x7 : ByteArray) (x8 : Int) (x9 : List ByteArray) (x10 : List ByteArray) (x11 : Int) (x12 : ByteArray) (x13 : ByteArray) (x14 : Int) (x15 : List ByteArray) (x16 : List ByteArray) (x17 : Int) (x18 : ByteArray) (x19 : ByteArray) (x20 : Int) (x21 : Int) (x22 : ByteArray) (x23 : ByteArray) (x24 : Int) (x25 : List ByteArray) (x26 : List ByteArray) : cutG W0 (callW W0) (cutW W0) n19 td19_17 { fr := [((2 : Nat), F.a (A.c (C.pt (Pt.own (0 : Nat) (0 : Nat) (0 : Nat))))), ((3 : Nat), F.a (A.c (C.pt (Pt.own (1 : Nat) (0 : Nat) (0 : Nat))))), ((4 : Nat), F.a (A.c (C.pt (Pt.own (2 : Nat) (0 : Nat) (0 : Nat))))), ((6 : Nat), F.a (A.c (C.pt (Pt.own (3 : Nat) (0 : Nat) (0 : Nat))))), ((7 : Nat), F.a (A.c (C.sc (Go.Value.bool x0)))), ((8 : Nat), F.a (A.c (C.sc (Go.Value.bool x1)))), ((9 : Nat), F.a (A.c (C.sc (Go.Value.int Go.IntKind.i64 x2)))), ((10 : Nat), F.a (A.c (C.sc (Go.Value.int Go.IntKind.i64 x3)))), ((11 : Nat), F.a (A.c (C.sc (Go.Value.bool x4))))], mem := [some (Row.box (24 : Nat) (some ty24) [C.sc (Go.Value.int Go.IntKind.i64 x5), C.sc (Go.Value.string x6), C.sc (Go.Value.string x7), C.sc (Go.Value.int Go.IntKind.i64 x8), C.sl Ty.str x9, C.sl Ty.str x10] false), some (Row.box (24 : Nat) (some ty24) [C.sc (Go.Value.int Go.IntKind.i64 x11), C.sc (Go.Value.string x12), C.sc (Go.Value.string x13), C.sc (Go.Value.int Go.IntKind.i64 x14), C.sl Ty.str x15, C.sl Ty.str x16] false), some (Row.box (24 : Nat) (some ty24) [C.sc (Go.Value.int Go.IntKind.i64 x17), C.sc (Go.Value.string x18), C.sc (Go.Value.string x19), C.sc (Go.Value.int Go.IntKind.i64 x20), C.nl, C.nl] false), some (Row.box (24 : Nat) (some ty24) [C.sc (Go.Value.int Go.IntKind.i64 x21), C.sc (Go.Value.string x22), C.sc (Go.Value.string x23), C.sc (Go.Value.int Go.IntKind.i64 x24), C.ow (4 : Nat) (List.length x25), C.ow (5 : Nat) (List.length x26)] false), some (Row.arr (9 : Nat) Ty.str x25 false), some (Row.arr (9 : Nat) Ty.str x26 false)], nx := (6 : Nat) } = ifs (decide (x3 ≥ x14) = true) (l19_18 x0 x1 x2 x3 x4 (decide (x3 < Go.IntKind.wrap Go.IntKind.i64 (x14 + (↑(List.length x15) : Int)))) x5 x6 x7 x8 x9 x10 x11 x12 x13 x14 x15 x16 x17 x18 x19 x20 x21 x22 x23 x24 x25 x26) (l19_18 x0 x1 x2 x3 x4 false x5 x6 x7 x8 x9 x10 x11 x12 x13 x14 x15 x16 x17 x18 x19 x20 x21 x22 x23 x24 x25 x26) := by kernel_rfl
theorem q19_18 (x0 : Bool) (x1 : Bool) (x2 : Int) (x3 : Int) (x4 : Bool) (x5 : Bool) (x6 : Int) (x7 : ByteArray) (x8 : ByteArray) (x9 : Int) (x10 : List ByteArray) (x11 : List ByteArray) (x12 : Int) (x13 : ByteArray) (x14 : ByteArray) (x15 : Int) (x16 : List ByteArray) (x17 : List ByteArray) (x18 : Int) (x19 : ByteArray) (x20 : ByteArray) (x21 : Int) (x22 : Int) (x23 : ByteArray) (x24 : ByteArray) (x25 : Int) (x26 : List ByteArray) (x27 : List ByteArray) : cutG W0 (callW W0) (cutW W0) n19 td19_18 { fr := [((2 : Nat), F.a (A.c (C.pt (Pt.own (0 : Nat) (0 : Nat) (0 : Nat))))), ((3 : Nat), F.a (A.c (C.pt (Pt.own (1 : Nat) (0 : Nat) (0 : Nat))))), ((4 : Nat), F.a (A.c (C.pt (Pt.own (2 : Nat) (0 : Nat) (0 : Nat))))), ((6 : Nat), F.a (A.c (C.pt (Pt.own (3 : Nat) (0 : Nat) (0 : Nat))))), ((7 : Nat), F.a (A.c (C.sc (Go.Value.bool x0)))), ((8 : Nat), F.a (A.c (C.sc (Go.Value.bool x1)))), ((9 : Nat), F.a (A.c (C.sc (Go.Value.int Go.IntKind.i64 x2)))), ((10 : Nat), F.a (A.c (C.sc (Go.Value.int Go.IntKind.i64 x3)))), ((11 : Nat), F.a (A.c (C.sc (Go.Value.bool x4)))), ((12 : Nat), F.a (A.c (C.sc (Go.Value.bool x5))))], mem := [some (Row.box (24 : Nat) (some ty24) [C.sc (Go.Value.int Go.IntKind.i64 x6), C.sc (Go.Value.string x7), C.sc (Go.Value.string x8), C.sc (Go.Value.int Go.IntKind.i64 x9), C.sl Ty.str x10, C.sl Ty.str x11] false), some (Row.box (24 : Nat) (some ty24) [C.sc (Go.Value.int Go.IntKind.i64 x12), C.sc (Go.Value.string x13), C.sc (Go.Value.string x14), C.sc (Go.Value.int Go.IntKind.i64 x15), C.sl Ty.str x16, C.sl Ty.str x17] false), some (Row.box (24 : Nat) (some ty24) [C.sc (Go.Value.int Go.IntKind.i64 x18), C.sc (Go.Value.string x19), C.sc (Go.Value.string x20), C.sc (Go.Value.int Go.IntKind.i64 x21), C.nl, C.nl] false), some (Row.box (24 : Nat) (some ty24) [C.sc (Go.Value.int Go.IntKind.i64 x22), C.sc (Go.Value.string x23), C.sc (Go.Value.string x24), C.sc (Go.Value.int Go.IntKind.i64 x25), C.ow (4 : Nat) (List.length x26), C.ow (5 : Nat) (List.length x27)] false), some (Row.arr (9 : Nat) Ty.str x26 false), some (Row.arr (9 : Nat) Ty.str x27 false)], nx := (6 : Nat) } = ifs (x4 = true) (ifs (x5 = true) (ifs ((0 : Int) ≤ Go.IntKind.wrap Go.IntKind.i64 (x3 - x9)) (Option.bind x11[Int.toNat (Go.IntKind.wrap Go.IntKind.i64 (x3 - x9))]? fun r => ifs ((0 : Int) ≤ Go.IntKind.wrap Go.IntKind.i64 (x3 - x15)) (Option.bind x16[Int.toNat (Go.IntKind.wrap Go.IntKind.i64 (x3 - x15))]? fun r_1 => ifs ((!ByteArray.toList r == ByteArray.toList r_1) = true) (some (injRs [RT.d ty24, RT.d Ty.bool] (((0 : Int), { data := #[] }, { data := #[] }, (0 : Int), [], []), false))) (l19_20 x0 x1 x2 x3 x4 x5 x6 x7 x8 x9 x10 x11 x12 x13 x14 x15 x16 x17 x18 x19 x20 x21 x22 x23 x24 x25 x26 x27)) none) none) (l19_20 x0 x1 x2 x3 x4 x5 x6 x7 x8 x9 x10 x11 x12 x13 x14 x15 x16 x17 x18 x19 x20 x21 x22 x23 x24 x25 x26 x27)) (l19_20 x0 x1 x2 x3 x4 x5 x6 x7 x8 x9 x10 x11 x12 x13 x14 x15 x16 x17 x18 x19 x20 x21 x22 x23 x24 x25 x26 x27) := by kernel_rfl
theorem q19_20 (x0 : Bool) (x1 : Bool) (x2 : Int) (x3 : Int) (x4 : Bool) (x5 : Bool) (x6 : Int) (x7 : ByteArray) (x8 : ByteArray) (x9 : Int) (x10 : List ByteArray) (x11 : List ByteArray) (x12 : Int) (x13 : ByteArray) (x14 : ByteArray) (x15 : Int) (x16 : List ByteArray) (x17 : List ByteArray) (x18 : Int) (x19 : ByteArray) (x20 : ByteArray) (x21 : Int) (x22 : Int) (x23 : ByteArray) (x24 : ByteArray) (x25 : Int) (x26 : List ByteArray) (x27 : List ByteArray) : cutG W0 (callW W0) (cutW W0) n19 td19_20 { fr := [((2 : Nat), F.a (A.c (C.pt (Pt.own (0 : Nat) (0 : Nat) (0 : Nat))))), ((3 : Nat), F.a (A.c (C.pt (Pt.own (1 : Nat) (0 : Nat) (0 : Nat))))), ((4 : Nat), F.a (A.c (C.pt (Pt.own (2 : Nat) (0 : Nat) (0 : Nat))))), ((6 : Nat), F.a (A.c (C.pt (Pt.own (3 : Nat) (0 : Nat) (0 : Nat))))), ((7 : Nat), F.a (A.c (C.sc (Go.Value.bool x0)))), ((8 : Nat), F.a (A.c (C.sc (Go.Value.bool x1)))), ((9 : Nat), F.a (A.c (C.sc (Go.Value.int Go.IntKind.i64 x2)))), ((10 : Nat), F.a (A.c (C.sc (Go.Value.int Go.IntKind.i64 x3)))), ((11 : Nat), F.a (A.c (C.sc (Go.Value.bool x4)))), ((12 : Nat), F.a (A.c (C.sc (Go.Value.bool x5))))], mem := [some (Row.box (24 : Nat) (some ty24) [C.sc (Go.Value.int Go.IntKind.i64 x6), C.sc (Go.Value.string x7), C.sc (Go.Value.string x8), C.sc (Go.Value.int Go.IntKind.i64 x9), C.sl Ty.str x10, C.sl Ty.str x11] false), some (Row.box (24 : Nat) (some ty24) [C.sc (Go.Value.int Go.IntKind.i64 x12), C.sc (Go.Value.string x13), C.sc (Go.Value.string x14), C.sc (Go.Value.int Go.IntKind.i64 x15), C.sl Ty.str x16, C.sl Ty.str x17] false), some (Row.box (24 : Nat) (some ty24) [C.sc (Go.Value.int Go.IntKind.i64 x18), C.sc (Go.Value.string x19), C.sc (Go.Value.string x20), C.sc (Go.Value.int Go.IntKind.i64 x21), C.nl, C.nl] false), some (Row.box (24 : Nat) (some ty24) [C.sc (Go.Value.int Go.IntKind.i64 x22), C.sc (Go.Value.string x23), C.sc (Go.Value.string x24), C.sc (Go.Value.int Go.IntKind.i64 x25), C.ow (4 : Nat) (List.length x26), C.ow (5 : Nat) (List.length x27)] false), some (Row.arr (9 : Nat) Ty.str x26 false), some (Row.arr (9 : Nat) Ty.str x27 false)], nx := (6 : Nat) } = ifs (x5 = true) (ifs ((!x4) = true) (ifs ((0 : Int) ≤ Go.IntKind.wrap Go.IntKind.i64 (x3 - x15)) (Option.bind x16[Int.toNat (Go.IntKind.wrap Go.IntKind.i64 (x3 - x15))]? fun r => ifs ((List.length x26 + (1 : Nat)) * nat_lit 16 ≤ (140737488355328 : Nat)) (l19_22 x0 x1 x2 x3 x4 x5 x6 x7 x8 x9 x10 x11 x12 x13 x14 x15 x16 x17 x18 x19 x20 x21 x22 x23 x24 x25 (List.take (List.length x26) x26 ++ [r]) x27) none) none) (l19_22 x0 x1 x2 x3 x4 x5 x6 x7 x8 x9 x10 x11 x12 x13 x14 x15 x16 x17 x18 x19 x20 x21 x22 x23 x24 x25 x26 x27)) (l19_22 x0 x1 x2 x3 x4 x5 x6 x7 x8 x9 x10 x11 x12 x13 x14 x15 x16 x17 x18 x19 x20 x21 x22 x23 x24 x25 x26 x27) := by kernel_rfl
theorem q19_22 (x0 : Bool) (x1 : Bool) (x2 : Int) (x3 : Int) (x4 : Bool) (x5 : Bool) (x6 : Int) (x7 : ByteArray) (x8 : ByteArray) (x9 : Int) (x10 : List ByteArray) (x11 : List ByteArray) (x12 : Int) (x13 : ByteArray) (x14 : ByteArray) (x15 : Int) (x16 : List ByteArray) (x17 : List ByteArray) (x18 : Int) (x19 : ByteArray) (x20 : ByteArray) (x21 : Int) (x22 : Int) (x23 : ByteArray) (x24 : ByteArray) (x25 : Int) (x26 : List ByteArray) (x27 : List ByteArray) : cutG W0 (callW W0) (cutW W0) n19 td19_22 { fr := [((2 : Nat), F.a (A.c (C.pt (Pt.own (0 : Nat) (0 : Nat) (0 : Nat))))), ((3 : Nat), F.a (A.c (C.pt (Pt.own (1 : Nat) (0 : Nat) (0 : Nat))))), ((4 : Nat), F.a (A.c (C.pt (Pt.own (2 : Nat) (0 : Nat) (0 : Nat))))), ((6 : Nat), F.a (A.c (C.pt (Pt.own (3 : Nat) (0 : Nat) (0 : Nat))))), ((7 : Nat), F.a (A.c (C.sc (Go.Value.bool x0)))), ((8 : Nat), F.a (A.c (C.sc (Go.Value.bool x1)))), ((9 : Nat), F.a (A.c (C.sc (Go.Value.int Go.IntKind.i64 x2)))), ((10 : Nat), F.a (A.c (C.sc (Go.Value.int Go.IntKind.i64 x3)))), ((11 : Nat), F.a (A.c (C.sc (Go.Value.bool x4)))), ((12 : Nat), F.a (A.c (C.sc (Go.Value.bool x5))))], mem := [some (Row.box (24 : Nat) (some ty24) [C.sc (Go.Value.int Go.IntKind.i64 x6), C.sc (Go.Value.string x7), C.sc (Go.Value.string x8), C.sc (Go.Value.int Go.IntKind.i64 x9), C.sl Ty.str x10, C.sl Ty.str x11] false), some (Row.box (24 : Nat) (some ty24) [C.sc (Go.Value.int Go.IntKind.i64 x12), C.sc (Go.Value.string x13), C.sc (Go.Value.string x14), C.sc (Go.Value.int Go.IntKind.i64 x15), C.sl Ty.str x16, C.sl Ty.str x17] false), some (Row.box (24 : Nat) (some ty24) [C.sc (Go.Value.int Go.IntKind.i64 x18), C.sc (Go.Value.string x19), C.sc (Go.Value.string x20), C.sc (Go.Value.int Go.IntKind.i64 x21), C.nl, C.nl] false), some (Row.box (24 : Nat) (some ty24) [C.sc (Go.Value.int Go.IntKind.i64 x22), C.sc (Go.Value.string x23), C.sc (Go.Value.string x24), C.sc (Go.Value.int Go.IntKind.i64 x25), C.ow (4 : Nat) (List.length x26), C.ow (5 : Nat) (List.length x27)] false), some (Row.arr (9 : Nat) Ty.str x26 false), some (Row.arr (9 : Nat) Ty.str x27 false)], nx := (6 : Nat) } = ifs (x4 = true) (ifs ((!x5) = true) (ifs ((0 : Int) ≤ Go.IntKind.wrap Go.IntKind.i64 (x3 - x9)) (Option.bind x11[Int.toNat (Go.IntKind.wrap Go.IntKind.i64 (x3 - x9))]? fun r => ifs ((List.length x27 + (1 : Nat)) * nat_lit 16 ≤ (140737488355328 : Nat)) (l19_9 x0 x1 x2 x3 x6 x7 x8 x9 x10 x11 x12 x13 x14 x15 x16 x17 x18 x19 x20 x21 x22 x23 x24 x25 x26 (List.take (List.length x27) x27 ++ [r])) none) none) (l19_9 x0 x1 x2 x3 x6 x7 x8 x9 x10 x11 x12 x13 x14 x15 x16 x17 x18 x19 x20 x21 x22 x23 x24 x25 x26 x27)) (l19_9 x0 x1 x2 x3 x6 x7 x8 x9 x10 x11 x12 x13 x14 x15 x16 x17 x18 x19 x20 x21 x22 x23 x24 x25 x26 x27) := by kernel_rfl
theorem q19_9 (x0 : Bool) (x1 : Bool) (x2 : Int) (x3 : Int) (x4 : Int) (x5 : ByteArray) (x6 : ByteArray) (x7 : Int) (x8 : List ByteArray) (x9 : List ByteArray) (x10 : Int) (x11 : ByteArray) (x12 : ByteArray) (x13 : Int) (x14 : List ByteArray) (x15 : List ByteArray) (x16 : Int) (x17 : ByteArray) (x18 : ByteArray) (x19 : Int) (x20 : Int) (x21 : ByteArray) (x22 : ByteArray) (x23 : Int) (x24 : List ByteArray) (x25 : List ByteArray) : cutG W0 (callW W0) (cutW W0) n19 td19_9 { fr := [((2 : Nat), F.a (A.c (C.pt (Pt.own (0 : Nat) (0 : Nat) (0 : Nat))))), ((3 : Nat), F.a (A.c (C.pt (Pt.own (1 : Nat) (0 : Nat) (0 : Nat))))), ((4 : Nat), F.a (A.c (C.pt (Pt.own (2 : Nat) (0 : Nat) (0 : Nat))))), ((6 : Nat), F.a (A.c (C.pt (Pt.own (3 : Nat) (0 : Nat) (0 : Nat))))), ((7 : Nat), F.a (A.c (C.sc (Go.Value.bool x0)))), ((8 : Nat), F.a (A.c (C.sc (Go.Value.bool x1)))), ((9 : Nat), F.a (A.c (C.sc (Go.Value.int Go.IntKind.i64 x2)))), ((10 : Nat), F.a (A.c (C.sc (Go.Value.int Go.IntKind.i64 x3))))], mem := [some (Row.box (24 : Nat) (some ty24) [C.sc (Go.Value.int Go.IntKind.i64 x4), C.sc (Go.Value.string x5), C.sc (Go.Value.string x6), C.sc (Go.Value.int Go.IntKind.i64 x7), C.sl Ty.str x8, C.sl Ty.str x9] false), some (Row.box (24 : Nat) (some ty24) [C.sc (Go.Value.int Go.IntKind.i64 x10), C.sc (Go.Value.string x11), C.sc (Go.Value.string x12), C.sc (Go.Value.int Go.IntKind.i64 x13), C.sl Ty.str x14, C.sl Ty.str x15] false), some (Row.box (24 : Nat) (some ty24) [C.sc (Go.Value.int Go.IntKind.i64 x16), C.sc (Go.Value.string x17), C.sc (Go.Value.string x18), C.sc (Go.Value.int Go.IntKind.i64 x19), C.nl, C.nl] false), some (Row.box (24 : Nat) (some ty24) [C.sc (Go.Value.int Go.IntKind.i64 x20), C.sc (Go.Value.string x21), C.sc (Go.Value.string x22), C.sc (Go.Value.int Go.IntKind.i64 x23), C.ow (4 : Nat) (List.length x24), C.ow (5 : Nat) (List.length x25)] false), some (Row.arr (9 : Nat) Ty.str x24 false), some (Row.arr (9 : Nat) Ty.str x25 false)], nx := (6 : Nat) } = l19_8 x0 x1 x2 (Go.IntKind.wrap Go.IntKind.i64 (x3 + (1 : Int))) x4 x5 x6 x7 x8 x9 x10 x11 x12 x13 x14 x15 x16 x17 x18 x19 x20 x21 x22 x23 x24 x25 := by kernel_rfl
theorem e17 (a0 : Int × ByteArray × ByteArray × Int × List ByteArray × List ByteArray) (a1 : Int × ByteArray × ByteArray × Int × List ByteArray × List ByteArray) : callG W0 (callW W0) (cutW W0) 17 [inj ty24 a0, inj ty24 a1] = Option.bind (cR (nat_lit 67) [RT.d (Ty.int Go.IntKind.i64)] [inj ty24 a0]) fun r => ifs ((r != (0 : Int)) = false) (Option.bind (cR (nat_lit 67) [RT.d (Ty.int Go.IntKind.i64)] [inj ty24 a1]) fun r => ifs ((r != (0 : Int)) = true) (some (injRs [RT.own (24 : Go.TypeId) ty24, RT.d Ty.bool] ([], false))) (ifs ((a0.fst != (2 : Int)) = true) (ifs ((a0.fst != (4 : Int)) = true) (ifs ((a0.fst != (6 : Int)) = true) (Option.bind (cR (nat_lit 68) [RT.d ty24] [inj ty24 a0]) fun r => Option.bind (cR (nat_lit 13) [RT.d Ty.bool] [inj (Ty.sl ty24) [r], inj (Ty.sl ty24) [a1]]) fun r => ifs (r = true) (some (injRs [RT.own (24 : Go.TypeId) ty24, RT.d Ty.bool] ([], true))) (ifs ((a0.fst == (5 : Int)) = true) (ifs ((a1.fst == (5 : Int)) = true) (ifs ((ByteArray.toList a1.snd.fst == ByteArray.toList a0.snd.snd.fst) = true) (some (injRs [RT.own (24 : Go.TypeId) ty24, RT.d Ty.bool] ([((5 : Int), a0.snd.fst, a1.snd.snd.fst, (0 : Int), [], [])], true))) (Option.bind (cR (nat_lit 19) [RT.d ty24, RT.d Ty.bool] [inj ty24 a0, inj ty24 a1]) fun r => ifs ((!r.snd) = true) (some (injRs [RT.own (24 : Go.TypeId) ty24, RT.d Ty.bool] ([], false))) (Option.bind (cR (nat_lit 42) [RT.d Ty.bool] [inj (Ty.sl Ty.str) r.fst.snd.snd.snd.snd.fst, inj (Ty.sl Ty.str) r.fst.snd.snd.snd.snd.snd]) fun r_1 => ifs (r_1 = true) (some (injRs [RT.own (24 : Go.TypeId) ty24, RT.d Ty.bool] ([], true))) (some (injRs [RT.own (24 : Go.TypeId) ty24, RT.d Ty.bool] ([r.fst], true)))))) (Option.bind (cR (nat_lit 19) [RT.d ty24, RT.d Ty.bool] [inj ty24 a0, inj ty24 a1]) fun r => ifs ((!r.snd) = true) (some (injRs [RT.own (24 : Go.TypeId) ty24, RT.d Ty.bool] ([], false))) (Option.bind (cR (nat_lit 42) [RT.d Ty.bool] [inj (Ty.sl Ty.str) r.fst.snd.snd.snd.snd.fst, inj (Ty.sl Ty.str) r.fst.snd.snd.snd.snd.snd]) fun r_1 => ifs (r_1 = true) (some (injRs [RT.own (24 : Go.TypeId) ty24, RT.d Ty.bool] ([], true))) (some (injRs [RT.own (24 : Go.TypeId) ty24, RT.d Ty.bool] ([r.fst], true)))))) (Option.bind (cR (nat_lit 19) [RT.d ty24, RT.d Ty.bool] [inj ty24 a0, inj ty24 a1]) fun r => ifs ((!r.snd) = true) (some (injRs [RT.own (24 : Go.TypeId) ty24, RT.d Ty.bool] ([], false))) (Option.bind (cR (nat_lit 42) [RT.d Ty.bool] [inj (Ty.sl Ty.str) r.fst.snd.snd.snd.snd.fst, inj (Ty.sl Ty.str) r.fst.snd.snd.snd.snd.snd]) fun r_1 => ifs (r_1 = true) (some (injRs [RT.own (24 : Go.TypeId) ty24, RT.d Ty.bool] ([], true))) (some (injRs [RT.own (24 : Go.TypeId) ty24, RT.d Ty.bool] ([r.fst], true))))))) (ifs ((a0.fst == (5 : Int)) = true) (ifs ((a1.fst == (5 : Int)) = true) (ifs ((ByteArray.toList a1.snd.fst == ByteArray.toList a0.snd.snd.fst) = true) (some (injRs [RT.own (24 : Go.TypeId) ty24, RT.d Ty.bool] ([((5 : Int), a0.snd.fst, a1.snd.snd.fst, (0 : Int), [], [])], true))) (Option.bind (cR (nat_lit 19) [RT.d ty24, RT.d Ty.bool] [inj ty24 a0, inj ty24 a1]) fun r => ifs ((!r.snd) = true) (some (injRs [RT.own (24 : Go.TypeId) ty24, RT.d Ty.bool] ([], false))) (Option.bind (cR (nat_lit 42) [RT.d Ty.bool] [inj (Ty.sl Ty.str) r.fst.snd.snd.snd.snd.fst, inj (Ty.sl Ty.str) r.fst.snd.snd.snd.snd.snd]) fun r_1 => ifs (r_1 = true) (some (injRs [RT.own (24 : Go.TypeId) ty24, RT.d Ty.bool] ([], true))) (some (injRs [RT.own (24 : Go.TypeId) ty24, RT.d Ty.bool] ([r.fst], true)))))) (Option.bind (cR (nat_lit 19) [RT.d ty24, RT.d Ty.bool] [inj ty24 a0, inj ty24 a1]) fun r => ifs ((!r.snd) = true) (some (injRs [RT.own (24 : Go.TypeId) ty24, RT.d Ty.bool] ([], false))) (Option.bind (cR (nat_lit 42) [RT.d Ty.bool] [inj (Ty.sl Ty.str) r.fst.snd.snd.snd.snd.fst, inj (Ty.sl Ty.str) r.fst.snd.snd.snd.snd.snd]) fun r_1 => ifs (r_1 = true) (some (injRs [RT.own (24 : Go.TypeId) ty24, RT.d Ty.bool] ([], true))) (some (injRs [RT.own (24 : Go.TypeId) ty24, RT.d Ty.bool] ([r.fst], true)))))) (Option.bind (cR (nat_lit 19) [RT.d ty24, RT.d Ty.bool] [inj ty24 a0, inj ty24 a1]) fun r => ifs ((!r.snd) = true) (some (injRs [RT.own (24 : Go.TypeId) ty24, RT.d Ty.bool] ([], false))) (Option.bind (cR (nat_lit 42) [RT.d Ty.bool] [inj (Ty.sl Ty.str) r.fst.snd.snd.snd.snd.fst, inj (Ty.sl Ty.str) r.fst.snd.snd.snd.snd.snd]) fun r_1 => ifs (r_1 = true) (some (injRs [RT.own (24 : Go.TypeId) ty24, RT.d Ty.bool] ([], true))) (some (injRs [RT.own (24 : Go.TypeId) ty24, RT.d Ty.bool] ([r.fst], true))))))) (ifs ((a0.fst == (5 : Int)) = true) (ifs ((a1.fst == (5 : Int)) = true) (ifs ((ByteArray.toList a1.snd.fst == ByteArray.toList a0.snd.snd.fst) = true) (some (injRs [RT.own (24 : Go.TypeId) ty24, RT.d Ty.bool] ([((5 : Int), a0.snd.fst, a1.snd.snd.fst, (0 : Int), [], [])], true))) (Option.bind (cR (nat_lit 19) [RT.d ty24, RT.d Ty.bool] [inj ty24 a0, inj ty24 a1]) fun r => ifs ((!r.snd) = true) (some (injRs [RT.own (24 : Go.TypeId) ty24, RT.d Ty.bool] ([], false))) (Option.bind (cR (nat_lit 42) [RT.d Ty.bool] [inj (Ty.sl Ty.str) r.fst.snd.snd.snd.snd.fst, inj (Ty.sl Ty.str) r.fst.snd.snd.snd.snd.snd]) fun r_1 => ifs (r_1 = true) (some (injRs [RT.own (24 : Go.TypeId) ty24, RT.d Ty.bool] ([], true))) (some (injRs [RT.own (24 : Go.TypeId) ty24, RT.d Ty.bool] ([r.fst], true)))))) (Option.bind (cR (nat_lit 19) [RT.d ty24, RT.d Ty.bool] [inj ty24 a0, inj ty24 a1]) fun r => ifs ((!r.snd) = true) (some (injRs [RT.own (24 : Go.TypeId) ty24, RT.d Ty.bool] ([], false))) (Option.bind (cR (nat_lit 42) [RT.d Ty.bool] [inj (Ty.sl Ty.str) r.fst.snd.snd.snd.snd.fst, inj (Ty.sl Ty.str) r.fst.snd.snd.snd.snd.snd]) fun r_1 => ifs (r_1 = true) (some (injRs [RT.own (24 : Go.TypeId) ty24, RT.d Ty.bool] ([], true))) (some (injRs [RT.own (24 : Go.TypeId) ty24, RT.d Ty.bool] ([r.fst], true)))))) (Option.bind (cR (nat_lit 19) [RT.d ty24, RT.d Ty.bool] [inj ty24 a0, inj ty24 a1]) fun r => ifs ((!r.snd) = true) (some (injRs [RT.own (24 : Go.TypeId) ty24, RT.d Ty.bool] ([], false))) (Option.bind (cR (nat_lit 42) [RT.d Ty.bool] [inj (Ty.sl Ty.str) r.fst.snd.snd.snd.snd.fst, inj (Ty.sl Ty.str) r.fst.snd.snd.snd.snd.snd]) fun r_1 => ifs (r_1 = true) (some (injRs [RT.own (24 : Go.TypeId) ty24, RT.d Ty.bool] ([], true))) (some (injRs [RT.own (24 : Go.TypeId) ty24, RT.d Ty.bool] ([r.fst], true))))))) (ifs ((a0.fst == (5 : Int)) = true) (ifs ((a1.fst == (5 : Int)) = true) (ifs ((ByteArray.toList a1.snd.fst == ByteArray.toList a0.snd.snd.fst) = true) (some (injRs [RT.own (24 : Go.TypeId) ty24, RT.d Ty.bool] ([((5 : Int), a0.snd.fst, a1.snd.snd.fst, (0 : Int), [], [])], true))) (Option.bind (cR (nat_lit 19) [RT.d ty24, RT.d Ty.bool] [inj ty24 a0, inj ty24 a1]) fun r => ifs ((!r.snd) = true) (some (injRs [RT.own (24 : Go.TypeId) ty24, RT.d Ty.bool] ([], false))) (Option.bind (cR (nat_lit 42) [RT.d Ty.bool] [inj (Ty.sl Ty.str) r.fst.snd.snd.snd.snd.fst, inj (Ty.sl Ty.str) r.fst.snd.snd.snd.snd.snd]) fun r_1 => ifs (r_1 = true) (some (injRs [RT.own (24 : Go.TypeId) ty24, RT.d Ty.bool] ([], true))) (some (injRs [RT.own (24 : Go.TypeId) ty24, RT.d Ty.bool] ([r.fst], true)))))) (Option.bind (cR (nat_lit 19) [RT.d ty24, RT.d Ty.bool] [inj ty24 a0, inj ty24 a1]) fun r => ifs ((!r.snd) = true) (some (injRs [RT.own (24 : Go.TypeId) ty24, RT.d Ty.bool] ([], false))) (Option.bind (cR (nat_lit 42) [RT.d Ty.bool] [inj (Ty.sl Ty.str) r.fst.snd.snd.snd.snd.fst, inj (Ty.sl Ty.str) r.fst.snd.snd.snd.snd.snd]) fun r_1 => ifs (r_1 = true) (some (injRs [RT.own (24 : Go.TypeId) ty24, RT.d Ty.bool] ([], true))) (some (injRs [RT.own (24 : Go.TypeId) ty24, RT.d Ty.bool] ([r.fst], true)))))) (Option.bind (cR (nat_lit 19) [RT.d ty24, RT.d Ty.bool] [inj ty24 a0, inj ty24 a1]) fun r => ifs ((!r.snd) = true) (some (injRs [RT.own (24 : Go.TypeId) ty24, RT.d Ty.bool] ([], false))) (Option.bind (cR (nat_lit 42) [RT.d Ty.bool] [inj (Ty.sl Ty.str) r.fst.snd.snd.snd.snd.fst, inj (Ty.sl Ty.str) r.fst.snd.snd.snd.snd.snd]) fun r_1 => ifs (r_1 = true) (some (injRs [RT.own (24 : Go.TypeId) ty24, RT.d Ty.bool] ([], true))) (some (injRs [RT.own (24 : Go.TypeId) ty24, RT.d Ty.bool] ([r.fst], true)))))))) (some (injRs [RT.own (24 : Go.TypeId) ty24, RT.d Ty.bool] ([], false))) := by kernel_rfl
noncomputable def td15_4 : List Item := (findT (code Tryd.f15) [] 4).getD []
noncomputable def l15_4 (x0 : Bool) (x1 : Int) (x2 : ByteArray) (x3 : ByteArray) (x4 : Int) (x5 : List ByteArray) (x6 : List ByteArray) (x7 : Int) (x8 : ByteArray) (x9 : ByteArray) (x10 : Int) (x11 : List ByteArray) (x12 : List ByteArray) (x13 : Int) (x14 : ByteArray) (x15 : ByteArray) (x16 : Int) (x17 : List ByteArray) (x18 : List ByteArray) : Option (List RV) := cutW W0 n15 td15_4 { fr := [((1 : Nat), F.a (A.c (C.pt (Pt.own (0 : Nat) (0 : Nat) (0 : Nat))))), ((2 : Nat), F.a (A.c (C.pt (Pt.own (1 : Nat) (0 : Nat) (0 : Nat))))), ((3 : Nat), F.a (A.c (C.pt (Pt.own (2 : Nat) (0 : Nat) (0 : Nat))))), ((4 : Nat), F.a (A.c (C.sc (Go.Value.bool x0))))], mem := [some (Row.box (24 : Nat) (some ty24) [C.sc (Go.Value.int Go.IntKind.i64 x1), C.sc (Go.Value.string x2), C.sc (Go.Value.string x3), C.sc (Go.Value.int Go.IntKind.i64 x4), C.sl Ty.str x5, C.sl Ty.str x6] false), some (Row.box (24 : Nat) (some ty24) [C.sc (Go.Value.int Go.IntKind.i64 x7), C.sc (Go.Value.string x8), C.sc (Go.Value.string x9), C.sc (Go.Value.int Go.IntKind.i64 x10), C.sl Ty.str x11, C.sl Ty.str x12] false), some (Row.box (24 : Nat) (some ty24) [C.sc (Go.Value.int Go.IntKind.i64 x13), C.sc (Go.Value.string x14), C.sc (Go.Value.string x15), C.sc (Go.Value.int Go.IntKind.i64 x16), C.sl Ty.str x17, C.sl Ty.str x18] false)], nx := (3 : Nat) }
theorem e15 : callG W0 (callW W0) (cutW W0) 15 [] = Option.bind (cR (nat_lit 18) [RT.d ty24, RT.d Ty.bool] [inj ty24 ((6 : Int), { data := #[(102 : UInt8)] }, { data := #[] }, (0 : Int), [{ data := #[(97 : UInt8)] }], [{ data := #[(98 : UInt8)] }]), inj ty24 ((6 : Int), { data := #[(102 : UInt8)] }, { data := #[] }, (0 : Int), [{ data := #[(98 : UInt8)] }], [{ data := #[(99 : UInt8)] }])]) fun r => l15_4 r.snd (6 : Int) { data := #[(102 : UInt8)] } { data := #[] } (0 : Int) [{ data := #[(97 : UInt8)] }] [{ data := #[(98 : UInt8)] }] (6 : Int) { data := #[(102 : UInt8)] } { data := #[] } (0 : Int) [{ data := #[(98 : UInt8)] }] [{ data := #[(99 : UInt8)] }] r.fst.fst r.fst.snd.fst r.fst.snd.snd.fst r.fst.snd.snd.snd.fst r.fst.snd.snd.snd.snd.fst r.fst.snd.snd.snd.snd.snd := by kernel_rfl
theorem q15_4 (x0 : Bool) (x1 : Int) (x2 : ByteArray) (x3 : ByteArray) (x4 : Int) (x5 : List ByteArray) (x6 : List ByteArray) (x7 : Int) (x8 : ByteArray) (x9 : ByteArray) (x10 : Int) (x11 : List ByteArray) (x12 : List ByteArray) (x13 : Int) (x14 : ByteArray) (x15 : ByteArray) (x16 : Int) (x17 : List ByteArray) (x18 : List ByteArray) : cutG W0 (callW W0) (cutW W0) n15 td15_4 { fr := [((1 : Nat), F.a (A.c (C.pt (Pt.own (0 : Nat) (0 : Nat) (0 : Nat))))), ((2 : Nat), F.a (A.c (C.pt (Pt.own (1 : Nat) (0 : Nat) (0 : Nat))))), ((3 : Nat), F.a (A.c (C.pt (Pt.own (2 : Nat) (0 : Nat) (0 : Nat))))), ((4 : Nat), F.a (A.c (C.sc (Go.Value.bool x0))))], mem := [some (Row.box (24 : Nat) (some ty24) [C.sc (Go.Value.int Go.IntKind.i64 x1), C.sc (Go.Value.string x2), C.sc (Go.Value.string x3), C.sc (Go.Value.int Go.IntKind.i64 x4), C.sl Ty.str x5, C.sl Ty.str x6] false), some (Row.box (24 : Nat) (some ty24) [C.sc (Go.Value.int Go.IntKind.i64 x7), C.sc (Go.Value.string x8), C.sc (Go.Value.string x9), C.sc (Go.Value.int Go.IntKind.i64 x10), C.sl Ty.str x11, C.sl Ty.str x12] false), some (Row.box (24 : Nat) (some ty24) [C.sc (Go.Value.int Go.IntKind.i64 x13), C.sc (Go.Value.string x14), C.sc (Go.Value.string x15), C.sc (Go.Value.int Go.IntKind.i64 x16), C.sl Ty.str x17, C.sl Ty.str x18] false)], nx := (3 : Nat) } = Option.bind (cR (nat_lit 64) [RT.d ty24] [inj ty24 (x1, x2, x3, x4, x5, x6)]) fun r => Option.bind (cR (nat_lit 22) [RT.own (24 : Go.TypeId) ty24] [inj (Ty.sl ty24) [((3 : Int), { data := #[(120 : UInt8)] }, { data := #[] }, (0 : Int), [], []), (x1, x2, x3, x4, x5, x6), r, ((4 : Int), { data := #[(120 : UInt8)] }, { data := #[] }, (0 : Int), [], [])]]) fun r => ifs (x0 = true) (Option.bind x17[Int.toNat (0 : Int)]? fun r_1 => ifs ((ByteArray.toList r_1 == ByteArray.toList { data := #[(97 : UInt8)] }) = true) (Option.bind x18[Int.toNat (0 : Int)]? fun r_2 => ifs ((ByteArray.toList r_2 == ByteArray.toList { data := #[(99 : UInt8)] }) = true) (ifs (((↑(List.length r) : Int) == (0 : Int)) = true) (Option.bind (cR (nat_lit 20) [RT.d Ty.bool] [inj ty24 (x1, x2, x3, x4, x5, x6), inj ty24 (x7, x8, x9, x10, x11, x12)]) fun r => some (injRs [RT.d Ty.bool] r)) (some (injRs [RT.d Ty.bool] false))) (some (injRs [RT.d Ty.bool] false))) (some (injRs [RT.d Ty.bool] false))) (some (injRs [RT.d Ty.bool] false)) := by kernel_rfl
theorem e4 (a0 : Int × ByteArray × ByteArray × Int × List ByteArray × List ByteArray) (a1 : Int × ByteArray × ByteArray × Int × List ByteArray × List ByteArray) : callG W0 (callW W0) (cutW W0) 4 [inj ty24 a0, inj ty24 a1] = Option.bind (cR (nat_lit 14) [RT.d Ty.bool] [inj (Ty.sl ty24) [a0, a1]]) fun r => ifs ((!r) = true) (Option.bind (cR (nat_lit 15) [RT.d Ty.bool] []) fun r => some (injRs [RT.d Ty.bool] r)) (Option.bind (cR (nat_lit 16) [RT.own (24 : Go.TypeId) ty24, RT.d Ty.bool] [inj ty24 a0, inj ty24 a1]) fun r => Option.bind (cR (nat_lit 17) [RT.own (24 : Go.TypeId) ty24, RT.d Ty.bool] [inj ty24 a0, inj ty24 a1]) fun r_1 => Option.bind (cR (nat_lit 18) [RT.d ty24, RT.d Ty.bool] [inj ty24 a0, inj ty24 a1]) fun r_2 => Option.bind (cR (nat_lit 19) [RT.d ty24, RT.d Ty.bool] [inj ty24 a0, inj ty24 a1]) fun r_3 => Option.bind (cR (nat_lit 15) [RT.d Ty.bool] []) fun r_4 => ifs (r_4 = true) (ifs ((r.snd == r_1.snd) = true) (Option.bind (cR (nat_lit 13) [RT.d Ty.bool] [inj (Ty.sl ty24) (List.take (List.length r.fst) r.fst), inj (Ty.sl ty24) (List.take (List.length r_1.fst) r_1.fst)]) fun r => ifs (r = true) (ifs ((r_2.snd == r_3.snd) = true) (Option.bind (cR (nat_lit 13) [RT.d Ty.bool] [inj (Ty.sl ty24) [r_2.fst], inj (Ty.sl ty24) [r_3.fst]]) fun r => ifs (r = true) (Option.bind (cR (nat_lit 20) [RT.d Ty.bool] [inj ty24 a0, inj ty24 a1]) fun r => Option.bind (cR (nat_lit 21) [RT.d Ty.bool] [inj ty24 a0, inj ty24 a1]) fun r_5 => some (injRs [RT.d Ty.bool] (r == r_5))) (some (injRs [RT.d Ty.bool] false))) (some (injRs [RT.d Ty.bool] false))) (some (injRs [RT.d Ty.bool] false))) (some (injRs [RT.d Ty.bool] false))) (some (injRs [RT.d Ty.bool] false))) := by kernel_rfl
noncomputable def td5_5 : List Item := (findT (code Tryd.f5) [] 5).getD []
noncomputable def l5_5 (x0 : List (Int × ByteArray × ByteArray × Int × List ByteArray × List ByteArray)) (x1 : Int) (x2 : List (Int × ByteArray × ByteArray × Int × List ByteArray × List ByteArray)) : Option (List RV) := cutW W0 n5 td5_5 { fr := [((0 : Nat), F.a (A.c (C.sl ty24 x0))), ((3 : Nat), F.a (A.c (C.ow (0 : Nat) (List.length x2)))), ((4 : Nat), F.a (A.c (C.sc (Go.Value.int Go.IntKind.i64 x1))))], mem := [some (Row.arr (24 : Nat) ty24 x2 false)], nx := (1 : Nat) }
noncomputable def td5_8 : List Item := (findT (code Tryd.f5) [] 8).getD []
noncomputable def l5_8 (x0 : List (Int × ByteArray × ByteArray × Int × List ByteArray × List ByteArray)) (x1 : Nat) (x2 : Int) (x3 : List (Int × ByteArray × ByteArray × Int × List ByteArray × List ByteArray)) (x4 : List (Int × ByteArray × ByteArray × Int × List ByteArray × List ByteArray)) : Option (List RV) := cutW W0 n5 td5_8 { fr := [((0 : Nat), F.a (A.c (C.sl ty24 x0))), ((3 : Nat), F.a (A.c (C.ow (0 : Nat) x1))), ((4 : Nat), F.a (A.c (C.sc (Go.Value.int Go.IntKind.i64 x2)))), ((5 : Nat), F.a (A.c (C.sl ty24 x3)))], mem := [some (Row.arr (24 : Nat) ty24 x4 false)], nx := (1 : Nat) }
noncomputable def l5_8v1 (x0 : List (Int × ByteArray × ByteArray × Int × List ByteArray × List ByteArray)) (x1 : Nat) (x2 : Int) (x3 : Nat) (x4 : List (Int × ByteArray × ByteArray × Int × List ByteArray × List ByteArray)) (x5 : List (Int × ByteArray × ByteArray × Int × List ByteArray × List ByteArray)) : Option (List RV) := cutW W0 n5 td5_8 { fr := [((0 : Nat), F.a (A.c (C.sl ty24 x0))), ((3 : Nat), F.a (A.c (C.ow (0 : Nat) x1))), ((4 : Nat), F.a (A.c (C.sc (Go.Value.int Go.IntKind.i64 x2)))), ((5 : Nat), F.a (A.c (C.ow (1 : Nat) x3)))], mem := [some (Row.arr (24 : Nat) ty24 x4 false), some (Row.arr (24 : Nat) ty24 x5 false)], nx := (2 : Nat) }
theorem e5 (a0 : List (Int × ByteArray × ByteArray × Int × List ByteArray × List ByteArray)) : callG W0 (callW W0) (cutW W0) 5 [inj (Ty.sl ty24) a0] = Option.bind (cR (nat_lit 14) [RT.d Ty.bool] [inj (Ty.sl ty24) a0]) fun r => ifs ((!r) = true) (Option.bind (cR (nat_lit 15) [RT.d Ty.bool] []) fun r => some (injRs [RT.d Ty.bool] r)) (l5_5 a0 (0 : Int) []) := by kernel_rfl
theorem q5_5 (x0 : List (Int × ByteArray × ByteArray × Int × List ByteArray × List ByteArray)) (x1 : Int) (x2 : List (Int × ByteArray × ByteArray × Int × List ByteArray × List ByteArray)) : cutG W0 (callW W0) (cutW W0) n5 td5_5 { fr := [((0 : Nat), F.a (A.c (C.sl ty24 x0))), ((3 : Nat), F.a (A.c (C.ow (0 : Nat) (List.length x2)))), ((4 : Nat), F.a (A.c (C.sc (Go.Value.int Go.IntKind.i64 x1))))], mem := [some (Row.arr (24 : Nat) ty24 x2 false)], nx := (1 : Nat) } = ifs (decide (x1 < (↑(List.length x0) : Int)) = true) (ifs ((0 : Int) ≤ Go.IntKind.wrap Go.IntKind.i64 (x1 + (1 : Int)) ∧ Go.IntKind.wrap Go.IntKind.i64 (x1 + (1 : Int)) ≤ (↑(List.length x0) : Int)) (ifs ((0 : Int) ≤ x1 ∧ x1 ≤ Go.IntKind.wrap Go.IntKind.i64 (x1 + (1 : Int))) (l5_8 x0 (List.length x2) x1 (List.drop (Int.toNat x1) (List.take (Int.toNat (Go.IntKind.wrap Go.IntKind.i64 (x1 + (1 : Int)))) x0)) x2) none) none) (Option.bind (cR (nat_lit 15) [RT.d Ty.bool] []) fun r => ifs (r = true) (Option.bind (cR (nat_lit 22) [RT.own (24 : Go.TypeId) ty24] [inj (Ty.sl ty24) x0]) fun r => Option.bind (cR (nat_lit 13) [RT.d Ty.bool] [inj (Ty.sl ty24) (List.take (List.length r) r), inj (Ty.sl ty24) (List.take (List.length x2) x2)]) fun r => some (injRs [RT.d Ty.bool] r)) (some (injRs [RT.d Ty.bool] false))) := by kernel_rfl
theorem q5_8 (x0 : List (Int × ByteArray × ByteArray × Int × List ByteArray × List ByteArray)) (x1 : Nat) (x2 : Int) (x3 : List (Int × ByteArray × ByteArray × Int × List ByteArray × List ByteArray)) (x4 : List (Int × ByteArray × ByteArray × Int × List ByteArray × List ByteArray)) : cutG W0 (callW W0) (cutW W0) n5 td5_8 { fr := [((0 : Nat), F.a (A.c (C.sl ty24 x0))), ((3 : Nat), F.a (A.c (C.ow (0 : Nat) x1))), ((4 : Nat), F.a (A.c (C.sc (Go.Value.int Go.IntKind.i64 x2)))), ((5 : Nat), F.a (A.c (C.sl ty24 x3)))], mem := [some (Row.arr (24 : Nat) ty24 x4 false)], nx := (1 : Nat) } = ifs (decide ((↑(List.length x3) : Int) > (0 : Int)) = true) (ifs (decide ((↑x1 : Int) > (0 : Int)) = true) (ifs ((0 : Int) ≤ Go.IntKind.wrap Go.IntKind.i64 ((↑x1 : Int) - (1 : Int)) ∧ Go.IntKind.wrap Go.IntKind.i64 ((↑x1 : Int) - (1 : Int)) < (↑x1 : Int)) (Option.bind x4[Int.toNat (Go.IntKind.wrap Go.IntKind.i64 ((↑x1 : Int) - (1 : Int)))]? fun r => Option.bind x3[Int.toNat (0 : Int)]? fun r_1 => Option.bind (cR (nat_lit 17) [RT.own (24 : Go.TypeId) ty24, RT.d Ty.bool] [inj ty24 r, inj ty24 r_1]) fun r => ifs ((!r.snd) = true) (ifs (((0 : Nat) + List.length (List.take x1 x4)) * nat_lit 96 ≤ (140737488355328 : Nat)) (ifs ((List.length ([] ++ List.take x1 x4) + List.length x3) * nat_lit 96 ≤ (140737488355328 : Nat)) (l5_5 x0 (Go.IntKind.wrap Go.IntKind.i64 (x2 + (1 : Int))) (List.take (List.length ([] ++ List.take x1 x4)) ([] ++ List.take x1 x4) ++ x3)) none) none) (ifs ((0 : Int) ≤ Go.IntKind.wrap Go.IntKind.i64 ((↑x1 : Int) - (1 : Int)) ∧ Go.IntKind.wrap Go.IntKind.i64 ((↑x1 : Int) - (1 : Int)) ≤ (↑x1 : Int)) (l5_8v1 x0 (Int.toNat (Go.IntKind.wrap Go.IntKind.i64 ((↑x1 : Int) - (1 : Int)))) x2 (List.length r.fst) x4 r.fst) none)) none) (ifs (((0 : Nat) + List.length (List.take x1 x4)) * nat_lit 96 ≤ (140737488355328 : Nat)) (ifs ((List.length ([] ++ List.take x1 x4) + List.length x3) * nat_lit 96 ≤ (140737488355328 : Nat)) (l5_5 x0 (Go.IntKind.wrap Go.IntKind.i64 (x2 + (1 : Int))) (List.take (List.length ([] ++ List.take x1 x4)) ([] ++ List.take x1 x4) ++ x3)) none) none)) (ifs (((0 : Nat) + List.length (List.take x1 x4)) * nat_lit 96 ≤ (140737488355328 : Nat)) (ifs ((List.length ([] ++ List.take x1 x4) + List.length x3) * nat_lit 96 ≤ (140737488355328 : Nat)) (l5_5 x0 (Go.IntKind.wrap Go.IntKind.i64 (x2 + (1 : Int))) (List.take (List.length ([] ++ List.take x1 x4)) ([] ++ List.take x1 x4) ++ x3)) none) none) := by kernel_rfl
theorem q5_8v1 (x0 : List (Int × ByteArray × ByteArray × Int × List ByteArray × List ByteArray)) (x1 : Nat) (x2 : Int) (x3 : Nat) (x4 : List (Int × ByteArray × ByteArray × Int × List ByteArray × List ByteArray)) (x5 : List (Int × ByteArray × ByteArray × Int × List ByteArray × List ByteArray)) : cutG W0 (callW W0) (cutW W0) n5 td5_8 { fr := [((0 : Nat), F.a (A.c (C.sl ty24 x0))), ((3 : Nat), F.a (A.c (C.ow (0 : Nat) x1))), ((4 : Nat), F.a (A.c (C.sc (Go.Value.int Go.IntKind.i64 x2)))), ((5 : Nat), F.a (A.c (C.ow (1 : Nat) x3)))], mem := [some (Row.arr (24 : Nat) ty24 x4 false), some (Row.arr (24 : Nat) ty24 x5 false)], nx := (2 : Nat) } = ifs (decide ((↑x3 : Int) > (0 : Int)) = true) (ifs (decide ((↑x1 : Int) > (0 : Int)) = true) (ifs ((0 : Int) ≤ Go.IntKind.wrap Go.IntKind.i64 ((↑x1 : Int) - (1 : Int)) ∧ Go.IntKind.wrap Go.IntKind.i64 ((↑x1 : Int) - (1 : Int)) < (↑x1 : Int)) (Option.bind x4[Int.toNat (Go.IntKind.wrap Go.IntKind.i64 ((↑x1 : Int) - (1 : Int)))]? fun r => ifs ((0 : Int) ≤ (0 : Int) ∧ (0 : Int) < (↑x3 : Int)) (Option.bind x5[Int.toNat (0 : Int)]? fun r_1 => Option.bind (cR (nat_lit 17) [RT.own (24 : Go.TypeId) ty24, RT.d Ty.bool] [inj ty24 r, inj ty24 r_1]) fun r => ifs ((!r.snd) = true) (ifs (((0 : Nat) + List.length (List.take x1 x4)) * nat_lit 96 ≤ (140737488355328 : Nat)) (ifs ((List.length ([] ++ List.take x1 x4) + List.length (List.take x3 x5)) * nat_lit 96 ≤ (140737488355328 : Nat)) (l5_5 x0 (Go.IntKind.wrap Go.IntKind.i64 (x2 + (1 : Int))) (List.take (List.length ([] ++ List.take x1 x4)) ([] ++ List.take x1 x4) ++ List.take x3 x5)) none) none) (ifs ((0 : Int) ≤ Go.IntKind.wrap Go.IntKind.i64 ((↑x1 : Int) - (1 : Int)) ∧ Go.IntKind.wrap Go.IntKind.i64 ((↑x1 : Int) - (1 : Int)) ≤ (↑x1 : Int)) (l5_8v1 x0 (Int.toNat (Go.IntKind.wrap Go.IntKind.i64 ((↑x1 : Int) - (1 : Int)))) x2 (List.length r.fst) x4 r.fst) none)) none) none) (ifs (((0 : Nat) + List.length (List.take x1 x4)) * nat_lit 96 ≤ (140737488355328 : Nat)) (ifs ((List.length ([] ++ List.take x1 x4) + List.length (List.take x3 x5)) * nat_lit 96 ≤ (140737488355328 : Nat)) (l5_5 x0 (Go.IntKind.wrap Go.IntKind.i64 (x2 + (1 : Int))) (List.take (List.length ([] ++ List.take x1 x4)) ([] ++ List.take x1 x4) ++ List.take x3 x5)) none) none)) (ifs (((0 : Nat) + List.length (List.take x1 x4)) * nat_lit 96 ≤ (140737488355328 : Nat)) (ifs ((List.length ([] ++ List.take x1 x4) + List.length (List.take x3 x5)) * nat_lit 96 ≤ (140737488355328 : Nat)) (l5_5 x0 (Go.IntKind.wrap Go.IntKind.i64 (x2 + (1 : Int))) (List.take (List.length ([] ++ List.take x1 x4)) ([] ++ List.take x1 x4) ++ List.take x3 x5)) none) none) := by kernel_rfl
end Go.Proofs.YtokecnkjgoghhaaDoor.Tb
end
