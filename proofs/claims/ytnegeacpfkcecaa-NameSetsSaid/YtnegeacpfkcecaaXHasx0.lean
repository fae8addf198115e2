-- Printed by px.py, a program of this session over the kit's print. Lean checks it.
import Derived.Test.YtnegeacpfkcecaaProg
import Derived.Below
import Derived.Deep.Draws
import Derived.Deep.AppendLies
import Derived.Maps.AppendAt
import Derived.OwnWalk
import Derived.Laws.BytesArg
import Derived.Laws.MakeOwn
import Derived.Laws.OwnMore
import Derived.Deep.OwnRows
import Derived.Tactics
import Derived.Lib.ConvBytes
import Derived.Laws.Slices
import Derived.WalkKit
import Derived.KernelRfl
import Derived.RowKit3
import Derived.Deep.LoopGhost
import Derived.Deep.QuietTactic
import Derived.BigQuiet
import Derived.WideLaws
import Derived.Deep.DeepCutAuto
import Derived.Deep.CutBlock
import Derived.Deep.RegionHeld3
import Derived.Laws.Rows
import Derived.Lib.AppendStr
import Derived.ArgAppend
import Derived.Laws.IdiomCopy
import Derived.OrdersHeld
import Derived.Laws.BitsLemmas
import Derived.RowKit
import Derived.Test.YtnegeacpfkcecaaWWords
import Derived.Test.YtnegeacpfkcecaaWLast
import Derived.Test.YtnegeacpfkcecaaWTab
import Derived.Test.YtnegeacpfkcecaaWFour
import Derived.Test.YtnegeacpfkcecaaWQPut
import Derived.Test.YtnegeacpfkcecaaWApart
import Derived.Test.YtnegeacpfkcecaaWArr
import Derived.Test.YtnegeacpfkcecaaWZeros
import Derived.Test.YtnegeacpfkcecaaWFoot
import Derived.Test.YtnegeacpfkcecaaWKept
import Derived.Test.YtnegeacpfkcecaaWShare
import Derived.Test.YtnegeacpfkcecaaWN
import Derived.Test.YtnegeacpfkcecaaWFootNe
import Derived.Test.YtnegeacpfkcecaaWAt
import Derived.Test.YtnegeacpfkcecaaWEqStruct
import Derived.Test.YtnegeacpfkcecaaWRepsOne
import Derived.Test.YtnegeacpfkcecaaWInv
import Derived.Test.YtnegeacpfkcecaaWInvWords
import Derived.Test.YtnegeacpfkcecaaWGuard
import Derived.Test.YtnegeacpfkcecaaWNEv
import Derived.Test.YtnegeacpfkcecaaWMore
namespace Go.Proofs.Ytnegeacpfkcecaa.XHas
open Go.RowKit Go.Proofs.YtnegeacpfkcecaaW.PrintWords Go.Proofs.YtnegeacpfkcecaaW.PrintLast Go.Proofs.YtnegeacpfkcecaaW.PrintMore
attribute [local go_sem] max2_int min2_int max_two min_two max_three min_three max_four min_four   -- for this text's walks alone
set_option linter.unusedVariables false
set_option linter.unusedSimpArgs false



def errW : Option Int → Value
  | none => .nilIface
  | some c => .iface 0 (.int .i64 c)
theorem errW_none : errW none = .nilIface := rfl
theorem errW_some (c : Int) : errW (some c) = .iface 0 (.int .i64 c) := rfl

-- the values' own types

theorem Kd_C_box {α : Type} {d : Kd α} {w : World} {g t : Nat} {cs : List Value} {x : α} (hb : w.heap[g]? = some (.cells cs.toArray t (0, 0))) (hK : d.K w x cs) : d.C w (some ⟨g, 0, none⟩) [x].length [x] :=
  ⟨rfl, by simp, fun _ => ⟨_, rfl, fun j p hj => ⟨cs, d.K_len hK, by
    have hj0 : j = 0 := by
      rcases Nat.eq_zero_or_pos j with h | h
      · exact h
      · rw [List.getElem?_eq_none (by simp; omega)] at hj; cases hj
    subst hj0
    have : x = p := by simpa using hj
    subst this
    exact hK, fun i u hu => by
    have hj0 : j = 0 := by
      rcases Nat.eq_zero_or_pos j with h | h
      · exact h
      · rw [List.getElem?_eq_none (by simp; omega)] at hj; cases hj
    subst hj0
    rw [Nat.zero_mul, Nat.zero_add, add_plain, blk_cell hb]
    simpa using hu⟩⟩⟩

end Go.Proofs.Ytnegeacpfkcecaa.XHas
