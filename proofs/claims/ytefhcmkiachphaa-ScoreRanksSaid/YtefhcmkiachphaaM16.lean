/- Words of the walks of this place: lemmas on rows, regions and rounds, those that the texts beside use. No condition. -/
import Derived.Test.YtefhcmkiachphaaM15
section
/- Words of the walks of this place: lemmas on rows, regions and rounds, those that the texts beside use. No condition. -/
/-! ### 52. A row that stays read whatever happens to a block (a set of blocks) doesn't lie there -/
namespace Go.Proofs.YtefhcmkiachphaaW.PrintWords
open Go.RowKit
namespace Kd
section
variable {α : Type} {d : Kd α} {W : World} {g n : Nat} {S ok : Nat → Prop} {A : Option Addr} {ad : Addr} {xs : List α}
end
end Kd
end Go.Proofs.YtefhcmkiachphaaW.PrintWords
end
