/- Words of the walks of this place: lemmas on rows, regions and rounds, those that the texts beside use. No condition. -/
import Derived.Test.YtnegeacpfkcecaaWWords
import Derived.Laws.StructEq
/-! ### 53. '==' of structs as_ one Bool -/
namespace Go.Proofs.YtnegeacpfkcecaaW.PrintWords
open Go.RowKit
section
variable {P : Program} {d : Nat} {xs ys : Array Value} {f : Field} {fs : List Field} {a b : Value} {r s : Bool} {w : World}
end
end Go.Proofs.YtnegeacpfkcecaaW.PrintWords
