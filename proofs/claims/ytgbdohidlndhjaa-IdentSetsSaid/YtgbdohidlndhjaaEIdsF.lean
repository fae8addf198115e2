/- Proved: slices.SortFunc of no ids. No condition. -/
import Derived.Test.YtgbdohidlndhjaaXIsx1
import Derived.Test.YtgbdohidlndhjaaShelf
import Derived.WalkKit
import Derived.Deep.LoopGhost
namespace Go.Proofs.Ytgbdohidlndhjaa.XIs
open Go.Lib Go.RowKit Go.Proofs.YtgbdohidlndhjaaW.PrintWords
set_option linter.unusedVariables false
set_option linter.unusedSimpArgs false
theorem ins_none (cap : Nat) (fv : Value) (w : World) : Calls Try.prog 63 #[.slice none 0 cap, .int .i64 0, .int .i64 0, fv] w fun e w' => e = .returned (.tuple #[]) ∧ w' = w := by
  go_enter Try.func63, Try.ntmps63
  go_wp2
  refine wp_loop_rounds 1 ?_
  rw [rounds_succ]
  go_wp2
  go_end0
  exact ⟨rfl, rfl⟩
set_option maxRecDepth 100000 in
set_option maxHeartbeats 2000000 in
theorem pdq_none (cap : Nat) (lim : Int) (fv : Value) (w : World) : Calls Try.prog 51 #[.slice none 0 cap, .int .i64 0, .int .i64 0, .int .i64 lim, fv] w fun e w' => e = .returned (.tuple #[]) ∧ w' = w := by
  have hi := fun W => ins_none cap fv W
  go_enter Try.func51, Try.ntmps51
  go_wp2
  refine wp_loop_rounds 1 ?_
  rw [rounds_succ]
  go_wp2_with (go_at_call 63; refine (hi _).mono ?_; rintro e w' ⟨rfl, rfl⟩)
  (try simp only [Exit.inBlock, Exit.then]); refine bodyPost_ret (results_none rfl _ _ _) rfl ?_
  exact ⟨rfl, rfl⟩
set_option maxRecDepth 100000 in
set_option maxHeartbeats 2000000 in
theorem sort_none (cap : Nat) (fv : Value) (w : World) : Calls Try.prog 37 #[.slice none 0 cap, fv] w fun e w' => e = .returned (.tuple #[]) ∧ w' = w := by
  have hp := fun lim W => pdq_none cap lim fv W
  have hl : ∀ W, Calls Try.prog 52 #[.int .u64 0] W fun e w' => e = .returned (.int .i64 (Lib.bitLen 0 : Nat)) ∧ w' = W := fun W => Any.bits_Len Try.lays125 0 W (by omega) (by omega)
  go_enter Try.func37, Try.ntmps37
  go_wp2_with (first | (go_at_call 52; refine (hl _).mono ?_; rintro e w' ⟨rfl, rfl⟩) | (go_at_call 51; refine (hp _ _).mono ?_; rintro e w' ⟨rfl, rfl⟩))
  go_end0
  exact ⟨rfl, rfl⟩
end Go.Proofs.Ytgbdohidlndhjaa.XIs
