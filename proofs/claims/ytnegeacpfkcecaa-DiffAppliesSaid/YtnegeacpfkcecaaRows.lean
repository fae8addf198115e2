/-
  No cell of these rows narrows 'for every input' (looked for: loops, veiled, ifaces, maps, wideKeys, modest, calm, conditions, laid).
  DERIVED. THE GIVEN ROWS OF THIS SEAT. 8 by the template 'for every input the law returns true; each argument reads behind the call as it read before'; 0 by the template 'total and deterministic' (their statements: YtnegeacpfkcecaaTotals.lean).
  GIVEN WITH THE SEED: the statements are not yours to turn. If you find one false, say at which input.
  Laid BY PROGRAM, IN A SANDBOX (cutbox-rows.mjs): the forced cells as the released guide's own fill.sh prints them over the translation 9207e751cfa337e7… (all of the seat's roots in one cut). By AI agents, Wed Nov 11 2026. No macro, syntax, notation, axiom, sorry.
-/
import Derived.Test.YtnegeacpfkcecaaChecked
import GoSem.Claim
import GoSem.ClaimJoined
import GoSem.ClaimMapViews
import Derived.JoinedTies
import Derived.KernelRfl
namespace Go.Proofs.Ytnegeacpfkcecaa
/- THE CELL 'sum', in the pinned program and in every row, IS THE sha256 OF THE DUMP (.gsa) THAT YtnegeacpfkcecaaProg.lean LOADS. Nothing in Lean hashes anything: it is a label: what it is worth is what the hold of that sum in a sandbox is worth. -/
noncomputable def Try.pinned : Pinned := { name := "ytnegeacpfkcecaa", sum := "9207e751cfa337e755a42200f059aa90af8db2bb7c44c2f903d08036db40235a", checked := Try.checked }
namespace Rows
def none {H : Type} : Left H := { results := [], args := [] }

/-- 'rafterlaw04.DiffHunks': WHATEVER THE INPUT: true; the input reads as it did. -/
def diffHunksSpec : ChangeSpec := { name := "diffHunks", fn := fun _ => fun
  | [d1, d2] => { results := [.lit (.bool true)], args := [d1, d2] }
  | _ => none }
def diffHunksRow : OpenClaim := { program := "ytnegeacpfkcecaa", sum := "9207e751cfa337e755a42200f059aa90af8db2bb7c44c2f903d08036db40235a", func := "rafter/rafterlaw04.DiffHunks", spec := "diffHunks", unfollowed := true, recurses := true, apart := false }
def DiffHunksSaid : Prop := diffHunksRow.holds Try.pinned (OpenSpec.ofChange diffHunksSpec)

/-- ITS FALSE NEIGHBOUR: 'it returns false'. Refute it at one input. -/
def diffHunksWrong : ChangeSpec := { name := "diffHunks", fn := fun _ => fun
  | [d1, d2] => { results := [.lit (.bool false)], args := [d1, d2] }
  | _ => none }
def DiffHunksWrongFalsely : Prop := diffHunksRow.holds Try.pinned (OpenSpec.ofChange diffHunksWrong)

/-- 'rafterlaw04.DiffLong': WHATEVER THE INPUT: true; the input reads as it did. -/
def diffLongSpec : ChangeSpec := { name := "diffLong", fn := fun _ => fun
  | [d1, d2, d3] => { results := [.lit (.bool true)], args := [d1, d2, d3] }
  | _ => none }
def diffLongRow : OpenClaim := { program := "ytnegeacpfkcecaa", sum := "9207e751cfa337e755a42200f059aa90af8db2bb7c44c2f903d08036db40235a", func := "rafter/rafterlaw04.DiffLong", spec := "diffLong", unfollowed := true, recurses := true, apart := false }
def DiffLongSaid : Prop := diffLongRow.holds Try.pinned (OpenSpec.ofChange diffLongSpec)

/-- ITS FALSE NEIGHBOUR: 'it returns false'. Refute it at one input. -/
def diffLongWrong : ChangeSpec := { name := "diffLong", fn := fun _ => fun
  | [d1, d2, d3] => { results := [.lit (.bool false)], args := [d1, d2, d3] }
  | _ => none }
def DiffLongWrongFalsely : Prop := diffLongRow.holds Try.pinned (OpenSpec.ofChange diffLongWrong)

/-- 'rafterlaw04.DiffApplies': WHATEVER THE INPUT: true; the input reads as it did. -/
def diffAppliesSpec : ChangeSpec := { name := "diffApplies", fn := fun _ => fun
  | [d1, d2, d3] => { results := [.lit (.bool true)], args := [d1, d2, d3] }
  | _ => none }
def diffAppliesRow : OpenClaim := { program := "ytnegeacpfkcecaa", sum := "9207e751cfa337e755a42200f059aa90af8db2bb7c44c2f903d08036db40235a", func := "rafter/rafterlaw04.DiffApplies", spec := "diffApplies", unfollowed := true, recurses := true, apart := false }
def DiffAppliesSaid : Prop := diffAppliesRow.holds Try.pinned (OpenSpec.ofChange diffAppliesSpec)

/-- ITS FALSE NEIGHBOUR: 'it returns false'. Refute it at one input. -/
def diffAppliesWrong : ChangeSpec := { name := "diffApplies", fn := fun _ => fun
  | [d1, d2, d3] => { results := [.lit (.bool false)], args := [d1, d2, d3] }
  | _ => none }
def DiffAppliesWrongFalsely : Prop := diffAppliesRow.holds Try.pinned (OpenSpec.ofChange diffAppliesWrong)

/-- 'rafterlaw30.ScoreAlike': WHATEVER THE INPUT: true; the input reads as it did. -/
def scoreAlikeSpec : ChangeSpec := { name := "scoreAlike", fn := fun _ => fun
  | [d1, d2] => { results := [.lit (.bool true)], args := [d1, d2] }
  | _ => none }
def scoreAlikeRow : OpenClaim := { program := "ytnegeacpfkcecaa", sum := "9207e751cfa337e755a42200f059aa90af8db2bb7c44c2f903d08036db40235a", func := "rafter/rafterlaw30.ScoreAlike", spec := "scoreAlike", inPlace := ["math.Float64frombits", "math.Float64bits"], unfollowed := true, recurses := true, apart := false }
def ScoreAlikeSaid : Prop := scoreAlikeRow.holds Try.pinned (OpenSpec.ofChange scoreAlikeSpec)

/-- ITS FALSE NEIGHBOUR: 'it returns false'. Refute it at one input. -/
def scoreAlikeWrong : ChangeSpec := { name := "scoreAlike", fn := fun _ => fun
  | [d1, d2] => { results := [.lit (.bool false)], args := [d1, d2] }
  | _ => none }
def ScoreAlikeWrongFalsely : Prop := scoreAlikeRow.holds Try.pinned (OpenSpec.ofChange scoreAlikeWrong)

/-- 'rafterlaw30.ScoreRanks': WHATEVER THE INPUT: true; the input reads as it did. -/
def scoreRanksSpec : ChangeSpec := { name := "scoreRanks", fn := fun _ => fun
  | [d] => { results := [.lit (.bool true)], args := [d] }
  | _ => none }
def scoreRanksRow : OpenClaim := { program := "ytnegeacpfkcecaa", sum := "9207e751cfa337e755a42200f059aa90af8db2bb7c44c2f903d08036db40235a", func := "rafter/rafterlaw30.ScoreRanks", spec := "scoreRanks", inPlace := ["math.Float64bits", "math.Float64frombits"], unfollowed := true, recurses := true, apart := false }
def ScoreRanksSaid : Prop := scoreRanksRow.holds Try.pinned (OpenSpec.ofChange scoreRanksSpec)

/-- ITS FALSE NEIGHBOUR: 'it returns false'. Refute it at one input. -/
def scoreRanksWrong : ChangeSpec := { name := "scoreRanks", fn := fun _ => fun
  | [d] => { results := [.lit (.bool false)], args := [d] }
  | _ => none }
def ScoreRanksWrongFalsely : Prop := scoreRanksRow.holds Try.pinned (OpenSpec.ofChange scoreRanksWrong)

/-- 'rafterlaw02.NameRight': WHATEVER THE INPUT: true; the input reads as it did. -/
def nameRightSpec : ChangeSpec := { name := "nameRight", fn := fun _ => fun
  | [d] => { results := [.lit (.bool true)], args := [d] }
  | _ => none }
def nameRightRow : OpenClaim := { program := "ytnegeacpfkcecaa", sum := "9207e751cfa337e755a42200f059aa90af8db2bb7c44c2f903d08036db40235a", func := "rafter/rafterlaw02.NameRight", spec := "nameRight", unfollowed := true, recurses := true, apart := false }
def NameRightSaid : Prop := nameRightRow.holds Try.pinned (OpenSpec.ofChange nameRightSpec)

/-- ITS FALSE NEIGHBOUR: 'it returns false'. Refute it at one input. -/
def nameRightWrong : ChangeSpec := { name := "nameRight", fn := fun _ => fun
  | [d] => { results := [.lit (.bool false)], args := [d] }
  | _ => none }
def NameRightWrongFalsely : Prop := nameRightRow.holds Try.pinned (OpenSpec.ofChange nameRightWrong)

/-- 'rafterlaw02.NameStays': WHATEVER THE INPUT: true; the input reads as it did. -/
def nameStaysSpec : ChangeSpec := { name := "nameStays", fn := fun _ => fun
  | [d1, d2] => { results := [.lit (.bool true)], args := [d1, d2] }
  | _ => none }
def nameStaysRow : OpenClaim := { program := "ytnegeacpfkcecaa", sum := "9207e751cfa337e755a42200f059aa90af8db2bb7c44c2f903d08036db40235a", func := "rafter/rafterlaw02.NameStays", spec := "nameStays", unfollowed := true, recurses := true, apart := false }
def NameStaysSaid : Prop := nameStaysRow.holds Try.pinned (OpenSpec.ofChange nameStaysSpec)

/-- ITS FALSE NEIGHBOUR: 'it returns false'. Refute it at one input. -/
def nameStaysWrong : ChangeSpec := { name := "nameStays", fn := fun _ => fun
  | [d1, d2] => { results := [.lit (.bool false)], args := [d1, d2] }
  | _ => none }
def NameStaysWrongFalsely : Prop := nameStaysRow.holds Try.pinned (OpenSpec.ofChange nameStaysWrong)

/-- 'rafterlaw02.NameSets': WHATEVER THE INPUT: true; the input reads as it did. -/
def nameSetsSpec : ChangeSpec := { name := "nameSets", fn := fun _ => fun
  | [d1, d2, d3] => { results := [.lit (.bool true)], args := [d1, d2, d3] }
  | _ => none }
def nameSetsRow : OpenClaim := { program := "ytnegeacpfkcecaa", sum := "9207e751cfa337e755a42200f059aa90af8db2bb7c44c2f903d08036db40235a", func := "rafter/rafterlaw02.NameSets", spec := "nameSets", unfollowed := true, recurses := true, apart := false }
def NameSetsSaid : Prop := nameSetsRow.holds Try.pinned (OpenSpec.ofChange nameSetsSpec)

/-- ITS FALSE NEIGHBOUR: 'it returns false'. Refute it at one input. -/
def nameSetsWrong : ChangeSpec := { name := "nameSets", fn := fun _ => fun
  | [d1, d2, d3] => { results := [.lit (.bool false)], args := [d1, d2, d3] }
  | _ => none }
def NameSetsWrongFalsely : Prop := nameSetsRow.holds Try.pinned (OpenSpec.ofChange nameSetsWrong)

/- THE SECOND FORM. 'bulk': how many values and letters a reading holds, each counted each time it is reached (what is shared counts as often as it is met; a slice's spare places count too). A statement '..UptoSaid' is the law's where the arguments, and the package variables that the reading takes, are together of bulk at most 1048576: NARROWER than '..Said'. Prove '..Said' where nothing that the law and all that it calls make is longer than what came in: it says more and counts as full. Else prove '..UptoSaid'. A law counts once. -/
mutual
def uptoBulk {H : Type} : DataW H → Nat
  | .lit (.string bytes) => bytes.length + 1
  | .lit _ => 1
  | .nil => 1
  | .ptr d => uptoBulk d + 1
  | .slice elems spare => uptoBulkAll elems + uptoBulkAll spare + 1
  | .agg parts => uptoBulkAll parts + 1
  | .iface _ d => uptoBulk d + 1
  | .map entries => uptoBulkEntries entries + 1
  | .held _ => 1
def uptoBulkAll {H : Type} : List (DataW H) → Nat
  | [] => 0
  | d :: r => uptoBulk d + uptoBulkAll r
def uptoBulkEntries {H : Type} : List (Lit × DataW H) → Nat
  | [] => 0
  | x :: r => uptoBulkEntry x + uptoBulkEntries r
def uptoBulkEntry {H : Type} : Lit × DataW H → Nat
  | (.string bytes, d) => bytes.length + uptoBulk d + 1
  | (_, d) => uptoBulk d + 1
 end
def uptoSmall : (H : Type) → List (DataW H) → Bool := fun _ ds => decide (uptoBulkAll ds ≤ 1048576)
def OpenSpec.upto (s : _root_.Go.ChangeSpec) : _root_.Go.OpenSpec := { _root_.Go.OpenSpec.ofChange s with cond := some uptoSmall }

/-- 'rafterlaw04.DiffHunks', WHERE WHAT IT READS IS OF BULK AT MOST 1048576: true; the input reads as it did. -/
def diffHunksUptoRow : OpenClaim := { program := "ytnegeacpfkcecaa", sum := "9207e751cfa337e755a42200f059aa90af8db2bb7c44c2f903d08036db40235a", func := "rafter/rafterlaw04.DiffHunks", spec := "diffHunks", unfollowed := true, recurses := true, apart := false, narrowed := true }
def DiffHunksUptoSaid : Prop := diffHunksUptoRow.holds Try.pinned (OpenSpec.upto diffHunksSpec)

/-- 'rafterlaw04.DiffLong', WHERE WHAT IT READS IS OF BULK AT MOST 1048576: true; the input reads as it did. -/
def diffLongUptoRow : OpenClaim := { program := "ytnegeacpfkcecaa", sum := "9207e751cfa337e755a42200f059aa90af8db2bb7c44c2f903d08036db40235a", func := "rafter/rafterlaw04.DiffLong", spec := "diffLong", unfollowed := true, recurses := true, apart := false, narrowed := true }
def DiffLongUptoSaid : Prop := diffLongUptoRow.holds Try.pinned (OpenSpec.upto diffLongSpec)

/-- 'rafterlaw04.DiffApplies', WHERE WHAT IT READS IS OF BULK AT MOST 1048576: true; the input reads as it did. -/
def diffAppliesUptoRow : OpenClaim := { program := "ytnegeacpfkcecaa", sum := "9207e751cfa337e755a42200f059aa90af8db2bb7c44c2f903d08036db40235a", func := "rafter/rafterlaw04.DiffApplies", spec := "diffApplies", unfollowed := true, recurses := true, apart := false, narrowed := true }
def DiffAppliesUptoSaid : Prop := diffAppliesUptoRow.holds Try.pinned (OpenSpec.upto diffAppliesSpec)

/-- 'rafterlaw30.ScoreAlike', WHERE WHAT IT READS IS OF BULK AT MOST 1048576: true; the input reads as it did. -/
def scoreAlikeUptoRow : OpenClaim := { program := "ytnegeacpfkcecaa", sum := "9207e751cfa337e755a42200f059aa90af8db2bb7c44c2f903d08036db40235a", func := "rafter/rafterlaw30.ScoreAlike", spec := "scoreAlike", inPlace := ["math.Float64frombits", "math.Float64bits"], unfollowed := true, recurses := true, apart := false, narrowed := true }
def ScoreAlikeUptoSaid : Prop := scoreAlikeUptoRow.holds Try.pinned (OpenSpec.upto scoreAlikeSpec)

/-- 'rafterlaw30.ScoreRanks', WHERE WHAT IT READS IS OF BULK AT MOST 1048576: true; the input reads as it did. -/
def scoreRanksUptoRow : OpenClaim := { program := "ytnegeacpfkcecaa", sum := "9207e751cfa337e755a42200f059aa90af8db2bb7c44c2f903d08036db40235a", func := "rafter/rafterlaw30.ScoreRanks", spec := "scoreRanks", inPlace := ["math.Float64bits", "math.Float64frombits"], unfollowed := true, recurses := true, apart := false, narrowed := true }
def ScoreRanksUptoSaid : Prop := scoreRanksUptoRow.holds Try.pinned (OpenSpec.upto scoreRanksSpec)

/-- 'rafterlaw02.NameRight', WHERE WHAT IT READS IS OF BULK AT MOST 1048576: true; the input reads as it did. -/
def nameRightUptoRow : OpenClaim := { program := "ytnegeacpfkcecaa", sum := "9207e751cfa337e755a42200f059aa90af8db2bb7c44c2f903d08036db40235a", func := "rafter/rafterlaw02.NameRight", spec := "nameRight", unfollowed := true, recurses := true, apart := false, narrowed := true }
def NameRightUptoSaid : Prop := nameRightUptoRow.holds Try.pinned (OpenSpec.upto nameRightSpec)

/-- 'rafterlaw02.NameStays', WHERE WHAT IT READS IS OF BULK AT MOST 1048576: true; the input reads as it did. -/
def nameStaysUptoRow : OpenClaim := { program := "ytnegeacpfkcecaa", sum := "9207e751cfa337e755a42200f059aa90af8db2bb7c44c2f903d08036db40235a", func := "rafter/rafterlaw02.NameStays", spec := "nameStays", unfollowed := true, recurses := true, apart := false, narrowed := true }
def NameStaysUptoSaid : Prop := nameStaysUptoRow.holds Try.pinned (OpenSpec.upto nameStaysSpec)

/-- 'rafterlaw02.NameSets', WHERE WHAT IT READS IS OF BULK AT MOST 1048576: true; the input reads as it did. -/
def nameSetsUptoRow : OpenClaim := { program := "ytnegeacpfkcecaa", sum := "9207e751cfa337e755a42200f059aa90af8db2bb7c44c2f903d08036db40235a", func := "rafter/rafterlaw02.NameSets", spec := "nameSets", unfollowed := true, recurses := true, apart := false, narrowed := true }
def NameSetsUptoSaid : Prop := nameSetsUptoRow.holds Try.pinned (OpenSpec.upto nameSetsSpec)

end Rows
end Go.Proofs.Ytnegeacpfkcecaa
