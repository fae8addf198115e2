/- Words of the walks of this place: lemmas on rows, regions and rounds, those that the texts beside use. No condition. -/
import Derived.Test.YtefhcmkiachphaaM20
import Derived.Test.YtefhcmkiachphaaM16
section
/- Words of the walks of this place: lemmas on rows, regions and rounds, those that the texts beside use. No condition. -/
namespace Go.Proofs.YtefhcmkiachphaaW.PrintWords
open Go.RowKit
end Go.Proofs.YtefhcmkiachphaaW.PrintWords
namespace Go.Proofs.YtefhcmkiachphaaW.PrintLast
section
variable {ops : Array Oper} {a : Act} {o og : Oper} {g : Nat} {t : Tmp} {u : Bool}
end
end Go.Proofs.YtefhcmkiachphaaW.PrintLast
end
