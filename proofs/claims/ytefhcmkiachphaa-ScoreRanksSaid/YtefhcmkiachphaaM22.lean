/- Words of the walks of this place: lemmas on rows, regions and rounds, those that the texts beside use. No condition. -/
import Derived.Test.YtefhcmkiachphaaM4
section
/- Words of the walks of this place: lemmas on rows, regions and rounds, those that the texts beside use. No condition. -/
/-! ### 58. A guarded operation whose guard is known to want it: the same goal without the guard -/
namespace Go.Proofs.YtefhcmkiachphaaW.PrintWords
open Go.RowKit
section
variable {P : Program} {ops : Array Oper} {rest : List Oper} {o : Oper} {a : Act} {Q : Exit → Act → World → Prop} {W : World}
end
end Go.Proofs.YtefhcmkiachphaaW.PrintWords
end
