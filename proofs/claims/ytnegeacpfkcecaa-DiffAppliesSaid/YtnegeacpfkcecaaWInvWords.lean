/- Words of the walks of this place: lemmas on rows, regions and rounds, those that the texts beside use. No condition. -/
import Derived.Test.YtnegeacpfkcecaaWInv
import Derived.Test.YtnegeacpfkcecaaWFootNe
namespace Go.Proofs.YtnegeacpfkcecaaW.PrintWords
open Go.RowKit
end Go.Proofs.YtnegeacpfkcecaaW.PrintWords
namespace Go.Proofs.YtnegeacpfkcecaaW.PrintLast
section
variable {ops : Array Oper} {a : Act} {o og : Oper} {g : Nat} {t : Tmp} {u : Bool}
end
end Go.Proofs.YtnegeacpfkcecaaW.PrintLast
