/-
  NARROWER THAN 'FOR EVERY INPUT', by the rows' own cells (each row's printed sentence says how): PrimHunks: laid · PrimAll: laid · CommuteSame: laid · FuseSame: laid · SeqSame: laid.
  DERIVED. THE GIVEN ROWS OF THIS SEAT. 5 by the template 'for every input the law returns true; each argument reads behind the call as it read before'; 0 by the template 'total and deterministic' (their statements: YtabhngbpkfdeiaaGreatDoorTotals.lean).
  GIVEN WITH THE SEED: the statements are not yours to turn. If you find one false, say at which input.
  Laid BY PROGRAM, IN A SANDBOX (cutbox-rows.mjs): the forced cells as the released guide's own fill.sh prints them over the translation 3ad9b5a6751d945f… (all of the seat's roots in one cut). By AI agents, Wed Nov 11 2026. No macro, syntax, notation, axiom, sorry.
-/
import Derived.Test.YtabhngbpkfdeiaaGreatDoorChecked
import GoSem.PinnedTables
import GoSem.Claim
import GoSem.ClaimJoined
import GoSem.ClaimMapViews
import Derived.JoinedTies
import Derived.KernelRfl
namespace Go.Proofs.YtabhngbpkfdeiaaGreatDoor
/- THE CELL 'sum', in the pinned program and in every row, IS THE sha256 OF THE DUMP (.gsa) THAT YtabhngbpkfdeiaaGreatDoorProg.lean LOADS. Nothing in Lean hashes anything: it is a label: what it is worth is what the hold of that sum in a sandbox is worth. -/
noncomputable def Tryz.pinned : Pinned := { name := "ytabhngbpkfdeiaagreatdoor", sum := "3ad9b5a6751d945ffaffd3cb4e352c06268f109a4c817b665c21d62ce408f401", checked := Tryz.checked }
namespace Rows
def none {H : Type} : Left H := { results := [], args := [] }

/- WHAT THE LISTED PACKAGE-LEVEL VARIABLES READ AS WHEN THE CALL BEGINS. Each datum BY PROGRAM (the guide's laid-datum.mjs) off the statement by which the dump's own 'gosem.cut.vars' lays the variable. In a bare row this is a premise. The card (YtabhngbpkfdeiaaGreatDoorCards.lean) ties it to the program's text. -/
def laid_unicode_utf8_acceptRanges {H : Type} : DataW H := .agg [.agg [.lit (.int .u8 128), .lit (.int .u8 191)], .agg [.lit (.int .u8 160), .lit (.int .u8 191)], .agg [.lit (.int .u8 128), .lit (.int .u8 159)], .agg [.lit (.int .u8 144), .lit (.int .u8 191)], .agg [.lit (.int .u8 128), .lit (.int .u8 143)], .agg [.lit (.int .u8 0), .lit (.int .u8 0)], .agg [.lit (.int .u8 0), .lit (.int .u8 0)], .agg [.lit (.int .u8 0), .lit (.int .u8 0)], .agg [.lit (.int .u8 0), .lit (.int .u8 0)], .agg [.lit (.int .u8 0), .lit (.int .u8 0)], .agg [.lit (.int .u8 0), .lit (.int .u8 0)], .agg [.lit (.int .u8 0), .lit (.int .u8 0)], .agg [.lit (.int .u8 0), .lit (.int .u8 0)], .agg [.lit (.int .u8 0), .lit (.int .u8 0)], .agg [.lit (.int .u8 0), .lit (.int .u8 0)], .agg [.lit (.int .u8 0), .lit (.int .u8 0)]]
/-- One of Go's own tables, pinned by name: the form's constant. -/
def laid_unicode_utf8_first : DataW Unit := Go.Pinned.utf8First

/-- 'rafterlaw07.PrimHunks': WHATEVER THE INPUT: true; the input reads as it did. -/
def primHunksSpec : ChangeSpec := { name := "primHunks", fn := fun _ => fun
  | [d1, d2, d3] => { results := [.lit (.bool true)], args := [d1, d2, d3] }
  | _ => none }
def primHunksRow : OpenClaim := { program := "ytabhngbpkfdeiaagreatdoor", sum := "3ad9b5a6751d945ffaffd3cb4e352c06268f109a4c817b665c21d62ce408f401", func := "rafter/rafterlaw07.PrimHunks", spec := "primHunks", inPlace := ["internal/bytealg.CountString", "internal/bytealg.IndexByteString", "internal/bytealg.IndexString", "internal/abi.NoEscape", "internal/bytealg.MakeNoZero", "slices.overlaps[rafter/api.File]"], unfollowed := true, recurses := true, named := ["unicode/utf8.first", "unicode/utf8.acceptRanges", "internal/bytealg.MaxLen"], apart := false, laid := [("unicode/utf8.acceptRanges", laid_unicode_utf8_acceptRanges), ("unicode/utf8.first", laid_unicode_utf8_first)] }
def PrimHunksSaid : Prop := primHunksRow.holds Tryz.pinned (OpenSpec.ofChange primHunksSpec)

/-- ITS FALSE NEIGHBOUR: 'it returns false'. Refute it at one input. -/
def primHunksWrong : ChangeSpec := { name := "primHunks", fn := fun _ => fun
  | [d1, d2, d3] => { results := [.lit (.bool false)], args := [d1, d2, d3] }
  | _ => none }
def PrimHunksWrongFalsely : Prop := primHunksRow.holds Tryz.pinned (OpenSpec.ofChange primHunksWrong)

/-- 'rafterlaw07.PrimAll': WHATEVER THE INPUT: true; the input reads as it did. -/
def primAllSpec : ChangeSpec := { name := "primAll", fn := fun _ => fun
  | [d1, d2] => { results := [.lit (.bool true)], args := [d1, d2] }
  | _ => none }
def primAllRow : OpenClaim := { program := "ytabhngbpkfdeiaagreatdoor", sum := "3ad9b5a6751d945ffaffd3cb4e352c06268f109a4c817b665c21d62ce408f401", func := "rafter/rafterlaw07.PrimAll", spec := "primAll", inPlace := ["internal/bytealg.CountString", "internal/bytealg.IndexByteString", "internal/bytealg.IndexString", "internal/abi.NoEscape", "internal/bytealg.MakeNoZero", "slices.overlaps[rafter/api.File]"], unfollowed := true, recurses := true, named := ["unicode/utf8.first", "unicode/utf8.acceptRanges", "internal/bytealg.MaxLen"], apart := false, laid := [("unicode/utf8.acceptRanges", laid_unicode_utf8_acceptRanges), ("unicode/utf8.first", laid_unicode_utf8_first)] }
def PrimAllSaid : Prop := primAllRow.holds Tryz.pinned (OpenSpec.ofChange primAllSpec)

/-- ITS FALSE NEIGHBOUR: 'it returns false'. Refute it at one input. -/
def primAllWrong : ChangeSpec := { name := "primAll", fn := fun _ => fun
  | [d1, d2] => { results := [.lit (.bool false)], args := [d1, d2] }
  | _ => none }
def PrimAllWrongFalsely : Prop := primAllRow.holds Tryz.pinned (OpenSpec.ofChange primAllWrong)

/-- 'rafterlaw08.CommuteSame': WHATEVER THE INPUT: true; the input reads as it did. -/
def commuteSameSpec : ChangeSpec := { name := "commuteSame", fn := fun _ => fun
  | [d1, d2, d3] => { results := [.lit (.bool true)], args := [d1, d2, d3] }
  | _ => none }
def commuteSameRow : OpenClaim := { program := "ytabhngbpkfdeiaagreatdoor", sum := "3ad9b5a6751d945ffaffd3cb4e352c06268f109a4c817b665c21d62ce408f401", func := "rafter/rafterlaw08.CommuteSame", spec := "commuteSame", inPlace := ["internal/bytealg.CountString", "internal/bytealg.IndexByteString", "internal/bytealg.IndexString", "internal/abi.NoEscape", "internal/bytealg.MakeNoZero", "slices.overlaps[rafter/api.File]"], unfollowed := true, recurses := true, named := ["unicode/utf8.first", "unicode/utf8.acceptRanges", "internal/bytealg.MaxLen"], apart := false, laid := [("unicode/utf8.acceptRanges", laid_unicode_utf8_acceptRanges), ("unicode/utf8.first", laid_unicode_utf8_first)] }
def CommuteSameSaid : Prop := commuteSameRow.holds Tryz.pinned (OpenSpec.ofChange commuteSameSpec)

/-- ITS FALSE NEIGHBOUR: 'it returns false'. Refute it at one input. -/
def commuteSameWrong : ChangeSpec := { name := "commuteSame", fn := fun _ => fun
  | [d1, d2, d3] => { results := [.lit (.bool false)], args := [d1, d2, d3] }
  | _ => none }
def CommuteSameWrongFalsely : Prop := commuteSameRow.holds Tryz.pinned (OpenSpec.ofChange commuteSameWrong)

/-- 'rafterlaw09.FuseSame': WHATEVER THE INPUT: true; the input reads as it did. -/
def fuseSameSpec : ChangeSpec := { name := "fuseSame", fn := fun _ => fun
  | [d1, d2] => { results := [.lit (.bool true)], args := [d1, d2] }
  | _ => none }
def fuseSameRow : OpenClaim := { program := "ytabhngbpkfdeiaagreatdoor", sum := "3ad9b5a6751d945ffaffd3cb4e352c06268f109a4c817b665c21d62ce408f401", func := "rafter/rafterlaw09.FuseSame", spec := "fuseSame", inPlace := ["internal/bytealg.CountString", "internal/bytealg.IndexByteString", "internal/bytealg.IndexString", "internal/abi.NoEscape", "internal/bytealg.MakeNoZero", "slices.overlaps[rafter/api.File]"], unfollowed := true, recurses := true, named := ["unicode/utf8.first", "unicode/utf8.acceptRanges", "internal/bytealg.MaxLen"], apart := false, laid := [("unicode/utf8.acceptRanges", laid_unicode_utf8_acceptRanges), ("unicode/utf8.first", laid_unicode_utf8_first)] }
def FuseSameSaid : Prop := fuseSameRow.holds Tryz.pinned (OpenSpec.ofChange fuseSameSpec)

/-- ITS FALSE NEIGHBOUR: 'it returns false'. Refute it at one input. -/
def fuseSameWrong : ChangeSpec := { name := "fuseSame", fn := fun _ => fun
  | [d1, d2] => { results := [.lit (.bool false)], args := [d1, d2] }
  | _ => none }
def FuseSameWrongFalsely : Prop := fuseSameRow.holds Tryz.pinned (OpenSpec.ofChange fuseSameWrong)

/-- 'rafterlaw10.SeqSame': WHATEVER THE INPUT: true; the input reads as it did. -/
def seqSameSpec : ChangeSpec := { name := "seqSame", fn := fun _ => fun
  | [d] => { results := [.lit (.bool true)], args := [d] }
  | _ => none }
def seqSameRow : OpenClaim := { program := "ytabhngbpkfdeiaagreatdoor", sum := "3ad9b5a6751d945ffaffd3cb4e352c06268f109a4c817b665c21d62ce408f401", func := "rafter/rafterlaw10.SeqSame", spec := "seqSame", inPlace := ["internal/bytealg.CountString", "internal/bytealg.IndexByteString", "internal/bytealg.IndexString", "internal/abi.NoEscape", "internal/bytealg.MakeNoZero", "slices.overlaps[rafter/api.File]"], unfollowed := true, recurses := true, named := ["unicode/utf8.first", "unicode/utf8.acceptRanges", "internal/bytealg.MaxLen"], apart := false, laid := [("unicode/utf8.acceptRanges", laid_unicode_utf8_acceptRanges), ("unicode/utf8.first", laid_unicode_utf8_first)] }
def SeqSameSaid : Prop := seqSameRow.holds Tryz.pinned (OpenSpec.ofChange seqSameSpec)

/-- ITS FALSE NEIGHBOUR: 'it returns false'. Refute it at one input. -/
def seqSameWrong : ChangeSpec := { name := "seqSame", fn := fun _ => fun
  | [d] => { results := [.lit (.bool false)], args := [d] }
  | _ => none }
def SeqSameWrongFalsely : Prop := seqSameRow.holds Tryz.pinned (OpenSpec.ofChange seqSameWrong)

/- THE SECOND FORM. 'bulk': how many values and letters a reading holds, each counted each time it is reached (what is shared counts as often as it is met; a slice's spare places count too). A statement '..UptoSaid' is the law's where the arguments, and the package variables that the reading takes, are together of bulk at most 1048576: NARROWER than '..Said'. Prove '..Said' where nothing that the law and all that it calls make is longer than what came in: it says more and counts as full. Else prove '..UptoSaid'. A law counts once. -/
mutual
def uptoBulk {H : Type} : DataW H → Nat
  | .lit (.string bytes) => bytes.length + 1
  | .lit _ => 1
  | .nil => 1
  | .ptr d => uptoBulk d + 1
  | .slice elems spare => uptoBulkAll elems + uptoBulkAll spare + 1
  | .agg parts => uptoBulkAll parts + 1
  | .iface _ d => uptoBulk d + 1
  | .map entries => uptoBulkEntries entries + 1
  | .held _ => 1
def uptoBulkAll {H : Type} : List (DataW H) → Nat
  | [] => 0
  | d :: r => uptoBulk d + uptoBulkAll r
def uptoBulkEntries {H : Type} : List (Lit × DataW H) → Nat
  | [] => 0
  | x :: r => uptoBulkEntry x + uptoBulkEntries r
def uptoBulkEntry {H : Type} : Lit × DataW H → Nat
  | (.string bytes, d) => bytes.length + uptoBulk d + 1
  | (_, d) => uptoBulk d + 1
 end
def uptoSmall : (H : Type) → List (DataW H) → Bool := fun _ ds => decide (uptoBulkAll ds ≤ 1048576)
def OpenSpec.upto (s : _root_.Go.ChangeSpec) : _root_.Go.OpenSpec := { _root_.Go.OpenSpec.ofChange s with cond := some uptoSmall }

/-- 'rafterlaw07.PrimHunks', WHERE WHAT IT READS IS OF BULK AT MOST 1048576: true; the input reads as it did. -/
def primHunksUptoRow : OpenClaim := { program := "ytabhngbpkfdeiaagreatdoor", sum := "3ad9b5a6751d945ffaffd3cb4e352c06268f109a4c817b665c21d62ce408f401", func := "rafter/rafterlaw07.PrimHunks", spec := "primHunks", inPlace := ["internal/bytealg.CountString", "internal/bytealg.IndexByteString", "internal/bytealg.IndexString", "internal/abi.NoEscape", "internal/bytealg.MakeNoZero", "slices.overlaps[rafter/api.File]"], unfollowed := true, recurses := true, named := ["unicode/utf8.first", "unicode/utf8.acceptRanges", "internal/bytealg.MaxLen"], apart := false, laid := [("unicode/utf8.acceptRanges", laid_unicode_utf8_acceptRanges), ("unicode/utf8.first", laid_unicode_utf8_first)], narrowed := true }
def PrimHunksUptoSaid : Prop := primHunksUptoRow.holds Tryz.pinned (OpenSpec.upto primHunksSpec)

/-- 'rafterlaw07.PrimAll', WHERE WHAT IT READS IS OF BULK AT MOST 1048576: true; the input reads as it did. -/
def primAllUptoRow : OpenClaim := { program := "ytabhngbpkfdeiaagreatdoor", sum := "3ad9b5a6751d945ffaffd3cb4e352c06268f109a4c817b665c21d62ce408f401", func := "rafter/rafterlaw07.PrimAll", spec := "primAll", inPlace := ["internal/bytealg.CountString", "internal/bytealg.IndexByteString", "internal/bytealg.IndexString", "internal/abi.NoEscape", "internal/bytealg.MakeNoZero", "slices.overlaps[rafter/api.File]"], unfollowed := true, recurses := true, named := ["unicode/utf8.first", "unicode/utf8.acceptRanges", "internal/bytealg.MaxLen"], apart := false, laid := [("unicode/utf8.acceptRanges", laid_unicode_utf8_acceptRanges), ("unicode/utf8.first", laid_unicode_utf8_first)], narrowed := true }
def PrimAllUptoSaid : Prop := primAllUptoRow.holds Tryz.pinned (OpenSpec.upto primAllSpec)

/-- 'rafterlaw08.CommuteSame', WHERE WHAT IT READS IS OF BULK AT MOST 1048576: true; the input reads as it did. -/
def commuteSameUptoRow : OpenClaim := { program := "ytabhngbpkfdeiaagreatdoor", sum := "3ad9b5a6751d945ffaffd3cb4e352c06268f109a4c817b665c21d62ce408f401", func := "rafter/rafterlaw08.CommuteSame", spec := "commuteSame", inPlace := ["internal/bytealg.CountString", "internal/bytealg.IndexByteString", "internal/bytealg.IndexString", "internal/abi.NoEscape", "internal/bytealg.MakeNoZero", "slices.overlaps[rafter/api.File]"], unfollowed := true, recurses := true, named := ["unicode/utf8.first", "unicode/utf8.acceptRanges", "internal/bytealg.MaxLen"], apart := false, laid := [("unicode/utf8.acceptRanges", laid_unicode_utf8_acceptRanges), ("unicode/utf8.first", laid_unicode_utf8_first)], narrowed := true }
def CommuteSameUptoSaid : Prop := commuteSameUptoRow.holds Tryz.pinned (OpenSpec.upto commuteSameSpec)

/-- 'rafterlaw09.FuseSame', WHERE WHAT IT READS IS OF BULK AT MOST 1048576: true; the input reads as it did. -/
def fuseSameUptoRow : OpenClaim := { program := "ytabhngbpkfdeiaagreatdoor", sum := "3ad9b5a6751d945ffaffd3cb4e352c06268f109a4c817b665c21d62ce408f401", func := "rafter/rafterlaw09.FuseSame", spec := "fuseSame", inPlace := ["internal/bytealg.CountString", "internal/bytealg.IndexByteString", "internal/bytealg.IndexString", "internal/abi.NoEscape", "internal/bytealg.MakeNoZero", "slices.overlaps[rafter/api.File]"], unfollowed := true, recurses := true, named := ["unicode/utf8.first", "unicode/utf8.acceptRanges", "internal/bytealg.MaxLen"], apart := false, laid := [("unicode/utf8.acceptRanges", laid_unicode_utf8_acceptRanges), ("unicode/utf8.first", laid_unicode_utf8_first)], narrowed := true }
def FuseSameUptoSaid : Prop := fuseSameUptoRow.holds Tryz.pinned (OpenSpec.upto fuseSameSpec)

/-- 'rafterlaw10.SeqSame', WHERE WHAT IT READS IS OF BULK AT MOST 1048576: true; the input reads as it did. -/
def seqSameUptoRow : OpenClaim := { program := "ytabhngbpkfdeiaagreatdoor", sum := "3ad9b5a6751d945ffaffd3cb4e352c06268f109a4c817b665c21d62ce408f401", func := "rafter/rafterlaw10.SeqSame", spec := "seqSame", inPlace := ["internal/bytealg.CountString", "internal/bytealg.IndexByteString", "internal/bytealg.IndexString", "internal/abi.NoEscape", "internal/bytealg.MakeNoZero", "slices.overlaps[rafter/api.File]"], unfollowed := true, recurses := true, named := ["unicode/utf8.first", "unicode/utf8.acceptRanges", "internal/bytealg.MaxLen"], apart := false, laid := [("unicode/utf8.acceptRanges", laid_unicode_utf8_acceptRanges), ("unicode/utf8.first", laid_unicode_utf8_first)], narrowed := true }
def SeqSameUptoSaid : Prop := seqSameUptoRow.holds Tryz.pinned (OpenSpec.upto seqSameSpec)

end Rows
end Go.Proofs.YtabhngbpkfdeiaaGreatDoor
