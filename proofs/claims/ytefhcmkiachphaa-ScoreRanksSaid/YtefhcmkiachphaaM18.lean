/- Words of the walks of this place: lemmas on rows, regions and rounds, those that the texts beside use. No condition. -/
import Derived.Test.YtefhcmkiachphaaM4
import Derived.Laws.StructEq
section
/- Words of the walks of this place: lemmas on rows, regions and rounds, those that the texts beside use. No condition. -/
/-! ### 53. '==' of structs as_ one Bool -/
namespace Go.Proofs.YtefhcmkiachphaaW.PrintWords
open Go.RowKit
section
variable {P : Program} {d : Nat} {xs ys : Array Value} {f : Field} {fs : List Field} {a b : Value} {r s : Bool} {w : World}
end
end Go.Proofs.YtefhcmkiachphaaW.PrintWords
end
