/-
  NARROWER THAN 'FOR EVERY INPUT', by the rows' own cells (each row's printed sentence says how): CommuteThree: laid · FusePairs: laid · FuseAll: laid · IntentTexts: laid · TreeDoes: laid · SeqRows: laid · SeqNeeds: laid.
  DERIVED. THE GIVEN ROWS OF THIS SEAT. 7 by the template 'for every input the law returns true; each argument reads behind the call as it read before'; 0 by the template 'total and deterministic' (their statements: YtokecnkjgoghhaaDoorTotals.lean).
  GIVEN WITH THE SEED: the statements are not yours to turn. If you find one false, say at which input.
  Laid BY PROGRAM, IN A SANDBOX (cutbox-rows.mjs): the forced cells as the released guide's own fill.sh prints them over the translation da074d5241297c0a… (all of the seat's roots in one cut). By AI agents, Wed Nov 11 2026. No macro, syntax, notation, axiom, sorry.
-/
import Derived.Test.YtokecnkjgoghhaaDoorChecked
import GoSem.PinnedTables
import GoSem.Claim
import GoSem.ClaimJoined
import GoSem.ClaimMapViews
import Derived.JoinedTies
import Derived.KernelRfl
namespace Go.Proofs.YtokecnkjgoghhaaDoor
/- THE CELL 'sum', in the pinned program and in every row, IS THE sha256 OF THE DUMP (.gsa) THAT YtokecnkjgoghhaaDoorProg.lean LOADS. Nothing in Lean hashes anything: it is a label: what it is worth is what the hold of that sum in a sandbox is worth. -/
noncomputable def Tryd.pinned : Pinned := { name := "ytokecnkjgoghhaadoor", sum := "da074d5241297c0a3c747ad898ae6b18f5986b21f2d37fbe86d6684d4e8742c4", checked := Tryd.checked }
namespace Rows
def none {H : Type} : Left H := { results := [], args := [] }

/- WHAT THE LISTED PACKAGE-LEVEL VARIABLES READ AS WHEN THE CALL BEGINS. Each datum BY PROGRAM (the guide's laid-datum.mjs) off the statement by which the dump's own 'gosem.cut.vars' lays the variable. In a bare row this is a premise. The card (YtokecnkjgoghhaaDoorCards.lean) ties it to the program's text. -/
def laid_unicode_utf8_acceptRanges {H : Type} : DataW H := .agg [.agg [.lit (.int .u8 128), .lit (.int .u8 191)], .agg [.lit (.int .u8 160), .lit (.int .u8 191)], .agg [.lit (.int .u8 128), .lit (.int .u8 159)], .agg [.lit (.int .u8 144), .lit (.int .u8 191)], .agg [.lit (.int .u8 128), .lit (.int .u8 143)], .agg [.lit (.int .u8 0), .lit (.int .u8 0)], .agg [.lit (.int .u8 0), .lit (.int .u8 0)], .agg [.lit (.int .u8 0), .lit (.int .u8 0)], .agg [.lit (.int .u8 0), .lit (.int .u8 0)], .agg [.lit (.int .u8 0), .lit (.int .u8 0)], .agg [.lit (.int .u8 0), .lit (.int .u8 0)], .agg [.lit (.int .u8 0), .lit (.int .u8 0)], .agg [.lit (.int .u8 0), .lit (.int .u8 0)], .agg [.lit (.int .u8 0), .lit (.int .u8 0)], .agg [.lit (.int .u8 0), .lit (.int .u8 0)], .agg [.lit (.int .u8 0), .lit (.int .u8 0)]]
/-- One of Go's own tables, pinned by name: the form's constant. -/
def laid_unicode_utf8_first : DataW Unit := Go.Pinned.utf8First

/-- 'rafterlaw08.CommuteThree': WHATEVER THE INPUT: true; the input reads as it did. -/
def commuteThreeSpec : ChangeSpec := { name := "commuteThree", fn := fun _ => fun
  | [d1, d2, d3] => { results := [.lit (.bool true)], args := [d1, d2, d3] }
  | _ => none }
def commuteThreeRow : OpenClaim := { program := "ytokecnkjgoghhaadoor", sum := "da074d5241297c0a3c747ad898ae6b18f5986b21f2d37fbe86d6684d4e8742c4", func := "rafter/rafterlaw08.CommuteThree", spec := "commuteThree", inPlace := ["internal/bytealg.CountString", "internal/bytealg.IndexByteString", "internal/bytealg.IndexString"], unfollowed := true, recurses := true, named := ["unicode/utf8.first", "unicode/utf8.acceptRanges", "internal/bytealg.MaxLen"], apart := false, laid := [("unicode/utf8.acceptRanges", laid_unicode_utf8_acceptRanges), ("unicode/utf8.first", laid_unicode_utf8_first)] }
def CommuteThreeSaid : Prop := commuteThreeRow.holds Tryd.pinned (OpenSpec.ofChange commuteThreeSpec)

/-- ITS FALSE NEIGHBOUR: 'it returns false'. Refute it at one input. -/
def commuteThreeWrong : ChangeSpec := { name := "commuteThree", fn := fun _ => fun
  | [d1, d2, d3] => { results := [.lit (.bool false)], args := [d1, d2, d3] }
  | _ => none }
def CommuteThreeWrongFalsely : Prop := commuteThreeRow.holds Tryd.pinned (OpenSpec.ofChange commuteThreeWrong)

/-- 'rafterlaw09.FusePairs': WHATEVER THE INPUT: true; the input reads as it did. -/
def fusePairsSpec : ChangeSpec := { name := "fusePairs", fn := fun _ => fun
  | [d1, d2] => { results := [.lit (.bool true)], args := [d1, d2] }
  | _ => none }
def fusePairsRow : OpenClaim := { program := "ytokecnkjgoghhaadoor", sum := "da074d5241297c0a3c747ad898ae6b18f5986b21f2d37fbe86d6684d4e8742c4", func := "rafter/rafterlaw09.FusePairs", spec := "fusePairs", inPlace := ["internal/bytealg.CountString", "internal/bytealg.IndexByteString", "internal/bytealg.IndexString"], unfollowed := true, recurses := true, named := ["unicode/utf8.first", "unicode/utf8.acceptRanges", "internal/bytealg.MaxLen"], apart := false, laid := [("unicode/utf8.acceptRanges", laid_unicode_utf8_acceptRanges), ("unicode/utf8.first", laid_unicode_utf8_first)] }
def FusePairsSaid : Prop := fusePairsRow.holds Tryd.pinned (OpenSpec.ofChange fusePairsSpec)

/-- ITS FALSE NEIGHBOUR: 'it returns false'. Refute it at one input. -/
def fusePairsWrong : ChangeSpec := { name := "fusePairs", fn := fun _ => fun
  | [d1, d2] => { results := [.lit (.bool false)], args := [d1, d2] }
  | _ => none }
def FusePairsWrongFalsely : Prop := fusePairsRow.holds Tryd.pinned (OpenSpec.ofChange fusePairsWrong)

/-- 'rafterlaw09.FuseAll': WHATEVER THE INPUT: true; the input reads as it did. -/
def fuseAllSpec : ChangeSpec := { name := "fuseAll", fn := fun _ => fun
  | [d] => { results := [.lit (.bool true)], args := [d] }
  | _ => none }
def fuseAllRow : OpenClaim := { program := "ytokecnkjgoghhaadoor", sum := "da074d5241297c0a3c747ad898ae6b18f5986b21f2d37fbe86d6684d4e8742c4", func := "rafter/rafterlaw09.FuseAll", spec := "fuseAll", inPlace := ["internal/bytealg.CountString", "internal/bytealg.IndexByteString", "internal/bytealg.IndexString"], unfollowed := true, recurses := true, named := ["unicode/utf8.first", "unicode/utf8.acceptRanges", "internal/bytealg.MaxLen"], apart := false, laid := [("unicode/utf8.acceptRanges", laid_unicode_utf8_acceptRanges), ("unicode/utf8.first", laid_unicode_utf8_first)] }
def FuseAllSaid : Prop := fuseAllRow.holds Tryd.pinned (OpenSpec.ofChange fuseAllSpec)

/-- ITS FALSE NEIGHBOUR: 'it returns false'. Refute it at one input. -/
def fuseAllWrong : ChangeSpec := { name := "fuseAll", fn := fun _ => fun
  | [d] => { results := [.lit (.bool false)], args := [d] }
  | _ => none }
def FuseAllWrongFalsely : Prop := fuseAllRow.holds Tryd.pinned (OpenSpec.ofChange fuseAllWrong)

/-- 'rafterlaw32.IntentTexts': WHATEVER THE INPUT: true; the input reads as it did. -/
def intentTextsSpec : ChangeSpec := { name := "intentTexts", fn := fun _ => fun
  | [d1, d2] => { results := [.lit (.bool true)], args := [d1, d2] }
  | _ => none }
def intentTextsRow : OpenClaim := { program := "ytokecnkjgoghhaadoor", sum := "da074d5241297c0a3c747ad898ae6b18f5986b21f2d37fbe86d6684d4e8742c4", func := "rafter/rafterlaw32.IntentTexts", spec := "intentTexts", inPlace := ["internal/bytealg.CountString", "internal/bytealg.IndexByteString", "internal/bytealg.IndexString", "maps.clone"], unfollowed := true, recurses := true, named := ["unicode/utf8.first", "unicode/utf8.acceptRanges", "internal/bytealg.MaxLen"], apart := false, laid := [("unicode/utf8.acceptRanges", laid_unicode_utf8_acceptRanges), ("unicode/utf8.first", laid_unicode_utf8_first)] }
def IntentTextsSaid : Prop := intentTextsRow.holds Tryd.pinned (OpenSpec.ofChange intentTextsSpec)

/-- ITS FALSE NEIGHBOUR: 'it returns false'. Refute it at one input. -/
def intentTextsWrong : ChangeSpec := { name := "intentTexts", fn := fun _ => fun
  | [d1, d2] => { results := [.lit (.bool false)], args := [d1, d2] }
  | _ => none }
def IntentTextsWrongFalsely : Prop := intentTextsRow.holds Tryd.pinned (OpenSpec.ofChange intentTextsWrong)

/-- 'rafterlaw06.TreeDoes': WHATEVER THE INPUT: true; the input reads as it did. -/
def treeDoesSpec : ChangeSpec := { name := "treeDoes", fn := fun _ => fun
  | [d1, d2] => { results := [.lit (.bool true)], args := [d1, d2] }
  | _ => none }
def treeDoesRow : OpenClaim := { program := "ytokecnkjgoghhaadoor", sum := "da074d5241297c0a3c747ad898ae6b18f5986b21f2d37fbe86d6684d4e8742c4", func := "rafter/rafterlaw06.TreeDoes", spec := "treeDoes", inPlace := ["internal/bytealg.CountString", "internal/bytealg.IndexByteString", "internal/bytealg.IndexString", "internal/abi.NoEscape", "internal/bytealg.MakeNoZero", "slices.overlaps[rafter/api.File]"], unfollowed := true, recurses := true, named := ["unicode/utf8.first", "unicode/utf8.acceptRanges", "internal/bytealg.MaxLen"], apart := false, laid := [("unicode/utf8.acceptRanges", laid_unicode_utf8_acceptRanges), ("unicode/utf8.first", laid_unicode_utf8_first)] }
def TreeDoesSaid : Prop := treeDoesRow.holds Tryd.pinned (OpenSpec.ofChange treeDoesSpec)

/-- ITS FALSE NEIGHBOUR: 'it returns false'. Refute it at one input. -/
def treeDoesWrong : ChangeSpec := { name := "treeDoes", fn := fun _ => fun
  | [d1, d2] => { results := [.lit (.bool false)], args := [d1, d2] }
  | _ => none }
def TreeDoesWrongFalsely : Prop := treeDoesRow.holds Tryd.pinned (OpenSpec.ofChange treeDoesWrong)

/-- 'rafterlaw10.SeqRows': WHATEVER THE INPUT: true; the input reads as it did. -/
def seqRowsSpec : ChangeSpec := { name := "seqRows", fn := fun _ => fun
  | [d1, d2, d3] => { results := [.lit (.bool true)], args := [d1, d2, d3] }
  | _ => none }
def seqRowsRow : OpenClaim := { program := "ytokecnkjgoghhaadoor", sum := "da074d5241297c0a3c747ad898ae6b18f5986b21f2d37fbe86d6684d4e8742c4", func := "rafter/rafterlaw10.SeqRows", spec := "seqRows", inPlace := ["internal/bytealg.CountString", "internal/bytealg.IndexByteString", "internal/bytealg.IndexString"], unfollowed := true, recurses := true, named := ["unicode/utf8.first", "unicode/utf8.acceptRanges", "internal/bytealg.MaxLen"], apart := false, laid := [("unicode/utf8.acceptRanges", laid_unicode_utf8_acceptRanges), ("unicode/utf8.first", laid_unicode_utf8_first)] }
def SeqRowsSaid : Prop := seqRowsRow.holds Tryd.pinned (OpenSpec.ofChange seqRowsSpec)

/-- ITS FALSE NEIGHBOUR: 'it returns false'. Refute it at one input. -/
def seqRowsWrong : ChangeSpec := { name := "seqRows", fn := fun _ => fun
  | [d1, d2, d3] => { results := [.lit (.bool false)], args := [d1, d2, d3] }
  | _ => none }
def SeqRowsWrongFalsely : Prop := seqRowsRow.holds Tryd.pinned (OpenSpec.ofChange seqRowsWrong)

/-- 'rafterlaw10.SeqNeeds': WHATEVER THE INPUT: true; the input reads as it did. -/
def seqNeedsSpec : ChangeSpec := { name := "seqNeeds", fn := fun _ => fun
  | [d1, d2] => { results := [.lit (.bool true)], args := [d1, d2] }
  | _ => none }
def seqNeedsRow : OpenClaim := { program := "ytokecnkjgoghhaadoor", sum := "da074d5241297c0a3c747ad898ae6b18f5986b21f2d37fbe86d6684d4e8742c4", func := "rafter/rafterlaw10.SeqNeeds", spec := "seqNeeds", inPlace := ["internal/bytealg.CountString", "internal/bytealg.IndexByteString", "internal/bytealg.IndexString"], unfollowed := true, recurses := true, named := ["unicode/utf8.first", "unicode/utf8.acceptRanges", "internal/bytealg.MaxLen"], apart := false, laid := [("unicode/utf8.acceptRanges", laid_unicode_utf8_acceptRanges), ("unicode/utf8.first", laid_unicode_utf8_first)] }
def SeqNeedsSaid : Prop := seqNeedsRow.holds Tryd.pinned (OpenSpec.ofChange seqNeedsSpec)

/-- ITS FALSE NEIGHBOUR: 'it returns false'. Refute it at one input. -/
def seqNeedsWrong : ChangeSpec := { name := "seqNeeds", fn := fun _ => fun
  | [d1, d2] => { results := [.lit (.bool false)], args := [d1, d2] }
  | _ => none }
def SeqNeedsWrongFalsely : Prop := seqNeedsRow.holds Tryd.pinned (OpenSpec.ofChange seqNeedsWrong)

/- THE SECOND FORM. 'bulk': how many values and letters a reading holds, each counted each time it is reached (what is shared counts as often as it is met; a slice's spare places count too). A statement '..UptoSaid' is the law's where the arguments, and the package variables that the reading takes, are together of bulk at most 1048576: NARROWER than '..Said'. Prove '..Said' where nothing that the law and all that it calls make is longer than what came in: it says more and counts as full. Else prove '..UptoSaid'. A law counts once. -/
mutual
def uptoBulk {H : Type} : DataW H → Nat
  | .lit (.string bytes) => bytes.length + 1
  | .lit _ => 1
  | .nil => 1
  | .ptr d => uptoBulk d + 1
  | .slice elems spare => uptoBulkAll elems + uptoBulkAll spare + 1
  | .agg parts => uptoBulkAll parts + 1
  | .iface _ d => uptoBulk d + 1
  | .map entries => uptoBulkEntries entries + 1
  | .held _ => 1
def uptoBulkAll {H : Type} : List (DataW H) → Nat
  | [] => 0
  | d :: r => uptoBulk d + uptoBulkAll r
def uptoBulkEntries {H : Type} : List (Lit × DataW H) → Nat
  | [] => 0
  | x :: r => uptoBulkEntry x + uptoBulkEntries r
def uptoBulkEntry {H : Type} : Lit × DataW H → Nat
  | (.string bytes, d) => bytes.length + uptoBulk d + 1
  | (_, d) => uptoBulk d + 1
 end
def uptoSmall : (H : Type) → List (DataW H) → Bool := fun _ ds => decide (uptoBulkAll ds ≤ 1048576)
def OpenSpec.upto (s : _root_.Go.ChangeSpec) : _root_.Go.OpenSpec := { _root_.Go.OpenSpec.ofChange s with cond := some uptoSmall }

/-- 'rafterlaw08.CommuteThree', WHERE WHAT IT READS IS OF BULK AT MOST 1048576: true; the input reads as it did. -/
def commuteThreeUptoRow : OpenClaim := { program := "ytokecnkjgoghhaadoor", sum := "da074d5241297c0a3c747ad898ae6b18f5986b21f2d37fbe86d6684d4e8742c4", func := "rafter/rafterlaw08.CommuteThree", spec := "commuteThree", inPlace := ["internal/bytealg.CountString", "internal/bytealg.IndexByteString", "internal/bytealg.IndexString"], unfollowed := true, recurses := true, named := ["unicode/utf8.first", "unicode/utf8.acceptRanges", "internal/bytealg.MaxLen"], apart := false, laid := [("unicode/utf8.acceptRanges", laid_unicode_utf8_acceptRanges), ("unicode/utf8.first", laid_unicode_utf8_first)], narrowed := true }
def CommuteThreeUptoSaid : Prop := commuteThreeUptoRow.holds Tryd.pinned (OpenSpec.upto commuteThreeSpec)

/-- 'rafterlaw09.FusePairs', WHERE WHAT IT READS IS OF BULK AT MOST 1048576: true; the input reads as it did. -/
def fusePairsUptoRow : OpenClaim := { program := "ytokecnkjgoghhaadoor", sum := "da074d5241297c0a3c747ad898ae6b18f5986b21f2d37fbe86d6684d4e8742c4", func := "rafter/rafterlaw09.FusePairs", spec := "fusePairs", inPlace := ["internal/bytealg.CountString", "internal/bytealg.IndexByteString", "internal/bytealg.IndexString"], unfollowed := true, recurses := true, named := ["unicode/utf8.first", "unicode/utf8.acceptRanges", "internal/bytealg.MaxLen"], apart := false, laid := [("unicode/utf8.acceptRanges", laid_unicode_utf8_acceptRanges), ("unicode/utf8.first", laid_unicode_utf8_first)], narrowed := true }
def FusePairsUptoSaid : Prop := fusePairsUptoRow.holds Tryd.pinned (OpenSpec.upto fusePairsSpec)

/-- 'rafterlaw09.FuseAll', WHERE WHAT IT READS IS OF BULK AT MOST 1048576: true; the input reads as it did. -/
def fuseAllUptoRow : OpenClaim := { program := "ytokecnkjgoghhaadoor", sum := "da074d5241297c0a3c747ad898ae6b18f5986b21f2d37fbe86d6684d4e8742c4", func := "rafter/rafterlaw09.FuseAll", spec := "fuseAll", inPlace := ["internal/bytealg.CountString", "internal/bytealg.IndexByteString", "internal/bytealg.IndexString"], unfollowed := true, recurses := true, named := ["unicode/utf8.first", "unicode/utf8.acceptRanges", "internal/bytealg.MaxLen"], apart := false, laid := [("unicode/utf8.acceptRanges", laid_unicode_utf8_acceptRanges), ("unicode/utf8.first", laid_unicode_utf8_first)], narrowed := true }
def FuseAllUptoSaid : Prop := fuseAllUptoRow.holds Tryd.pinned (OpenSpec.upto fuseAllSpec)

/-- 'rafterlaw32.IntentTexts', WHERE WHAT IT READS IS OF BULK AT MOST 1048576: true; the input reads as it did. -/
def intentTextsUptoRow : OpenClaim := { program := "ytokecnkjgoghhaadoor", sum := "da074d5241297c0a3c747ad898ae6b18f5986b21f2d37fbe86d6684d4e8742c4", func := "rafter/rafterlaw32.IntentTexts", spec := "intentTexts", inPlace := ["internal/bytealg.CountString", "internal/bytealg.IndexByteString", "internal/bytealg.IndexString", "maps.clone"], unfollowed := true, recurses := true, named := ["unicode/utf8.first", "unicode/utf8.acceptRanges", "internal/bytealg.MaxLen"], apart := false, laid := [("unicode/utf8.acceptRanges", laid_unicode_utf8_acceptRanges), ("unicode/utf8.first", laid_unicode_utf8_first)], narrowed := true }
def IntentTextsUptoSaid : Prop := intentTextsUptoRow.holds Tryd.pinned (OpenSpec.upto intentTextsSpec)

/-- 'rafterlaw06.TreeDoes', WHERE WHAT IT READS IS OF BULK AT MOST 1048576: true; the input reads as it did. -/
def treeDoesUptoRow : OpenClaim := { program := "ytokecnkjgoghhaadoor", sum := "da074d5241297c0a3c747ad898ae6b18f5986b21f2d37fbe86d6684d4e8742c4", func := "rafter/rafterlaw06.TreeDoes", spec := "treeDoes", inPlace := ["internal/bytealg.CountString", "internal/bytealg.IndexByteString", "internal/bytealg.IndexString", "internal/abi.NoEscape", "internal/bytealg.MakeNoZero", "slices.overlaps[rafter/api.File]"], unfollowed := true, recurses := true, named := ["unicode/utf8.first", "unicode/utf8.acceptRanges", "internal/bytealg.MaxLen"], apart := false, laid := [("unicode/utf8.acceptRanges", laid_unicode_utf8_acceptRanges), ("unicode/utf8.first", laid_unicode_utf8_first)], narrowed := true }
def TreeDoesUptoSaid : Prop := treeDoesUptoRow.holds Tryd.pinned (OpenSpec.upto treeDoesSpec)

/-- 'rafterlaw10.SeqRows', WHERE WHAT IT READS IS OF BULK AT MOST 1048576: true; the input reads as it did. -/
def seqRowsUptoRow : OpenClaim := { program := "ytokecnkjgoghhaadoor", sum := "da074d5241297c0a3c747ad898ae6b18f5986b21f2d37fbe86d6684d4e8742c4", func := "rafter/rafterlaw10.SeqRows", spec := "seqRows", inPlace := ["internal/bytealg.CountString", "internal/bytealg.IndexByteString", "internal/bytealg.IndexString"], unfollowed := true, recurses := true, named := ["unicode/utf8.first", "unicode/utf8.acceptRanges", "internal/bytealg.MaxLen"], apart := false, laid := [("unicode/utf8.acceptRanges", laid_unicode_utf8_acceptRanges), ("unicode/utf8.first", laid_unicode_utf8_first)], narrowed := true }
def SeqRowsUptoSaid : Prop := seqRowsUptoRow.holds Tryd.pinned (OpenSpec.upto seqRowsSpec)

/-- 'rafterlaw10.SeqNeeds', WHERE WHAT IT READS IS OF BULK AT MOST 1048576: true; the input reads as it did. -/
def seqNeedsUptoRow : OpenClaim := { program := "ytokecnkjgoghhaadoor", sum := "da074d5241297c0a3c747ad898ae6b18f5986b21f2d37fbe86d6684d4e8742c4", func := "rafter/rafterlaw10.SeqNeeds", spec := "seqNeeds", inPlace := ["internal/bytealg.CountString", "internal/bytealg.IndexByteString", "internal/bytealg.IndexString"], unfollowed := true, recurses := true, named := ["unicode/utf8.first", "unicode/utf8.acceptRanges", "internal/bytealg.MaxLen"], apart := false, laid := [("unicode/utf8.acceptRanges", laid_unicode_utf8_acceptRanges), ("unicode/utf8.first", laid_unicode_utf8_first)], narrowed := true }
def SeqNeedsUptoSaid : Prop := seqNeedsUptoRow.holds Tryd.pinned (OpenSpec.upto seqNeedsSpec)

end Rows
end Go.Proofs.YtokecnkjgoghhaaDoor
