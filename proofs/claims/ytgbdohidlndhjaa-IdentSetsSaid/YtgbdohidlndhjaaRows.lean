/-
  No cell of these rows narrows 'for every input' (looked for: loops, veiled, ifaces, maps, wideKeys, modest, calm, conditions, laid).
  DERIVED. THE GIVEN ROWS OF THIS SEAT. 3 by the template 'for every input the law returns true; each argument reads behind the call as it read before'; 0 by the template 'total and deterministic' (their statements: YtgbdohidlndhjaaTotals.lean).
  GIVEN WITH THE SEED: the statements are not yours to turn. If you find one false, say at which input.
  Laid BY PROGRAM, IN A SANDBOX (cutbox-rows.mjs): the forced cells as the released guide's own fill.sh prints them over the translation 5e7999942f77b4f9… (all of the seat's roots in one cut). By AI agents, Wed Nov 11 2026. No macro, syntax, notation, axiom, sorry.
-/
import Derived.Test.YtgbdohidlndhjaaChecked
import GoSem.Claim
import GoSem.ClaimJoined
import GoSem.ClaimMapViews
import Derived.JoinedTies
import Derived.KernelRfl
namespace Go.Proofs.Ytgbdohidlndhjaa
/- THE CELL 'sum', in the pinned program and in every row, IS THE sha256 OF THE DUMP (.gsa) THAT YtgbdohidlndhjaaProg.lean LOADS. Nothing in Lean hashes anything: it is a label: what it is worth is what the hold of that sum in a sandbox is worth. -/
noncomputable def Try.pinned : Pinned := { name := "ytgbdohidlndhjaa", sum := "5e7999942f77b4f9b1d07128d00492ff3b6fcedef65f0196735cc8aba2004170", checked := Try.checked }
namespace Rows
def none {H : Type} : Left H := { results := [], args := [] }

/-- 'rafterlaw11.IdentTexts': WHATEVER THE INPUT: true; the input reads as it did. -/
def identTextsSpec : ChangeSpec := { name := "identTexts", fn := fun _ => fun
  | [d1, d2] => { results := [.lit (.bool true)], args := [d1, d2] }
  | _ => none }
def identTextsRow : OpenClaim := { program := "ytgbdohidlndhjaa", sum := "5e7999942f77b4f9b1d07128d00492ff3b6fcedef65f0196735cc8aba2004170", func := "rafter/rafterlaw11.IdentTexts", spec := "identTexts", inPlace := ["internal/bytealg.IndexByteString", "internal/bytealg.IndexString"], unfollowed := true, recurses := true, named := ["internal/bytealg.MaxLen"], apart := false }
def IdentTextsSaid : Prop := identTextsRow.holds Try.pinned (OpenSpec.ofChange identTextsSpec)

/-- ITS FALSE NEIGHBOUR: 'it returns false'. Refute it at one input. -/
def identTextsWrong : ChangeSpec := { name := "identTexts", fn := fun _ => fun
  | [d1, d2] => { results := [.lit (.bool false)], args := [d1, d2] }
  | _ => none }
def IdentTextsWrongFalsely : Prop := identTextsRow.holds Try.pinned (OpenSpec.ofChange identTextsWrong)

/-- 'rafterlaw11.IdentRows': WHATEVER THE INPUT: true; the input reads as it did. -/
def identRowsSpec : ChangeSpec := { name := "identRows", fn := fun _ => fun
  | [d1, d2, d3] => { results := [.lit (.bool true)], args := [d1, d2, d3] }
  | _ => none }
def identRowsRow : OpenClaim := { program := "ytgbdohidlndhjaa", sum := "5e7999942f77b4f9b1d07128d00492ff3b6fcedef65f0196735cc8aba2004170", func := "rafter/rafterlaw11.IdentRows", spec := "identRows", inPlace := ["internal/bytealg.IndexByteString", "internal/bytealg.IndexString"], unfollowed := true, recurses := true, named := ["internal/bytealg.MaxLen"], apart := false }
def IdentRowsSaid : Prop := identRowsRow.holds Try.pinned (OpenSpec.ofChange identRowsSpec)

/-- ITS FALSE NEIGHBOUR: 'it returns false'. Refute it at one input. -/
def identRowsWrong : ChangeSpec := { name := "identRows", fn := fun _ => fun
  | [d1, d2, d3] => { results := [.lit (.bool false)], args := [d1, d2, d3] }
  | _ => none }
def IdentRowsWrongFalsely : Prop := identRowsRow.holds Try.pinned (OpenSpec.ofChange identRowsWrong)

/-- 'rafterlaw11.IdentSets': WHATEVER THE INPUT: true; the input reads as it did. -/
def identSetsSpec : ChangeSpec := { name := "identSets", fn := fun _ => fun
  | [d1, d2, d3] => { results := [.lit (.bool true)], args := [d1, d2, d3] }
  | _ => none }
def identSetsRow : OpenClaim := { program := "ytgbdohidlndhjaa", sum := "5e7999942f77b4f9b1d07128d00492ff3b6fcedef65f0196735cc8aba2004170", func := "rafter/rafterlaw11.IdentSets", spec := "identSets", inPlace := ["internal/bytealg.IndexByteString", "internal/bytealg.IndexString"], unfollowed := true, recurses := true, named := ["internal/bytealg.MaxLen"], apart := false }
def IdentSetsSaid : Prop := identSetsRow.holds Try.pinned (OpenSpec.ofChange identSetsSpec)

/-- ITS FALSE NEIGHBOUR: 'it returns false'. Refute it at one input. -/
def identSetsWrong : ChangeSpec := { name := "identSets", fn := fun _ => fun
  | [d1, d2, d3] => { results := [.lit (.bool false)], args := [d1, d2, d3] }
  | _ => none }
def IdentSetsWrongFalsely : Prop := identSetsRow.holds Try.pinned (OpenSpec.ofChange identSetsWrong)

/- THE SECOND FORM. 'bulk': how many values and letters a reading holds, each counted each time it is reached (what is shared counts as often as it is met; a slice's spare places count too). A statement '..UptoSaid' is the law's where the arguments, and the package variables that the reading takes, are together of bulk at most 1048576: NARROWER than '..Said'. Prove '..Said' where nothing that the law and all that it calls make is longer than what came in: it says more and counts as full. Else prove '..UptoSaid'. A law counts once. -/
mutual
def uptoBulk {H : Type} : DataW H → Nat
  | .lit (.string bytes) => bytes.length + 1
  | .lit _ => 1
  | .nil => 1
  | .ptr d => uptoBulk d + 1
  | .slice elems spare => uptoBulkAll elems + uptoBulkAll spare + 1
  | .agg parts => uptoBulkAll parts + 1
  | .iface _ d => uptoBulk d + 1
  | .map entries => uptoBulkEntries entries + 1
  | .held _ => 1
def uptoBulkAll {H : Type} : List (DataW H) → Nat
  | [] => 0
  | d :: r => uptoBulk d + uptoBulkAll r
def uptoBulkEntries {H : Type} : List (Lit × DataW H) → Nat
  | [] => 0
  | x :: r => uptoBulkEntry x + uptoBulkEntries r
def uptoBulkEntry {H : Type} : Lit × DataW H → Nat
  | (.string bytes, d) => bytes.length + uptoBulk d + 1
  | (_, d) => uptoBulk d + 1
 end
def uptoSmall : (H : Type) → List (DataW H) → Bool := fun _ ds => decide (uptoBulkAll ds ≤ 1048576)
def OpenSpec.upto (s : _root_.Go.ChangeSpec) : _root_.Go.OpenSpec := { _root_.Go.OpenSpec.ofChange s with cond := some uptoSmall }

/-- 'rafterlaw11.IdentTexts', WHERE WHAT IT READS IS OF BULK AT MOST 1048576: true; the input reads as it did. -/
def identTextsUptoRow : OpenClaim := { program := "ytgbdohidlndhjaa", sum := "5e7999942f77b4f9b1d07128d00492ff3b6fcedef65f0196735cc8aba2004170", func := "rafter/rafterlaw11.IdentTexts", spec := "identTexts", inPlace := ["internal/bytealg.IndexByteString", "internal/bytealg.IndexString"], unfollowed := true, recurses := true, named := ["internal/bytealg.MaxLen"], apart := false, narrowed := true }
def IdentTextsUptoSaid : Prop := identTextsUptoRow.holds Try.pinned (OpenSpec.upto identTextsSpec)

/-- 'rafterlaw11.IdentRows', WHERE WHAT IT READS IS OF BULK AT MOST 1048576: true; the input reads as it did. -/
def identRowsUptoRow : OpenClaim := { program := "ytgbdohidlndhjaa", sum := "5e7999942f77b4f9b1d07128d00492ff3b6fcedef65f0196735cc8aba2004170", func := "rafter/rafterlaw11.IdentRows", spec := "identRows", inPlace := ["internal/bytealg.IndexByteString", "internal/bytealg.IndexString"], unfollowed := true, recurses := true, named := ["internal/bytealg.MaxLen"], apart := false, narrowed := true }
def IdentRowsUptoSaid : Prop := identRowsUptoRow.holds Try.pinned (OpenSpec.upto identRowsSpec)

/-- 'rafterlaw11.IdentSets', WHERE WHAT IT READS IS OF BULK AT MOST 1048576: true; the input reads as it did. -/
def identSetsUptoRow : OpenClaim := { program := "ytgbdohidlndhjaa", sum := "5e7999942f77b4f9b1d07128d00492ff3b6fcedef65f0196735cc8aba2004170", func := "rafter/rafterlaw11.IdentSets", spec := "identSets", inPlace := ["internal/bytealg.IndexByteString", "internal/bytealg.IndexString"], unfollowed := true, recurses := true, named := ["internal/bytealg.MaxLen"], apart := false, narrowed := true }
def IdentSetsUptoSaid : Prop := identSetsUptoRow.holds Try.pinned (OpenSpec.upto identSetsSpec)

end Rows
end Go.Proofs.Ytgbdohidlndhjaa
