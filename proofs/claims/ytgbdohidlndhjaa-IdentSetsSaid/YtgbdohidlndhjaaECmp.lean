/- Proved: what cmp.Compare answers for two texts: -1, 0 or 1. No condition. -/
import Derived.Test.YtgbdohidlndhjaaProg
import Derived.Test.YtgbdohidlndhjaaWWords
import Derived.WalkKit
import Derived.WalkLawsBesides
import Derived.KernelRfl
namespace Go.Proofs.Ytgbdohidlndhjaa.ECmp
open Go.RowKit Go.Proofs.YtgbdohidlndhjaaW.PrintWords
set_option linter.unusedSimpArgs false
theorem nan_calls (a : ByteArray) (w : World) : Calls Try.prog 61 #[.string a] w fun e w' => e = .returned (.bool false) ∧ ∃ n, w' = w.drewN n := by
  go_enter Try.func61, Try.ntmps61
  go_wp2
  go_ret
  exact ⟨rfl, 0, rfl⟩
def cmpS (a b : ByteArray) : Int := if Op.bytesLess a.toList b.toList = true then -1 else if (a.toList == b.toList) = true then 0 else 1
theorem cmp_calls (a b : ByteArray) (w : World) : Calls Try.prog 49 #[.string a, .string b] w fun e w' => e = .returned (.int .i64 (cmpS a b)) ∧ Below w.heap.size w w' := by
  cases h1 : Op.bytesLess a.toList b.toList with
  | true =>
    go_enter Try.func49, Try.ntmps49
    go_wp2_with (go_at_call 61; refine (nan_calls _ _).mono ?_; rintro e w' ⟨rfl, n, rfl⟩)
    go_ret
    exact ⟨by simp [cmpS, h1], by repeat (first | exact Below.refl _ _ | apply pw_below_drewN | apply below_drew1)⟩
  | false =>
    cases h2 : (a.toList == b.toList) with
    | true =>
      go_enter Try.func49, Try.ntmps49
      go_wp2_with (go_at_call 61; refine (nan_calls _ _).mono ?_; rintro e w' ⟨rfl, n, rfl⟩)
      go_ret
      exact ⟨by simp [cmpS, h1, h2], by repeat (first | exact Below.refl _ _ | apply pw_below_drewN | apply below_drew1)⟩
    | false =>
      go_enter Try.func49, Try.ntmps49
      go_wp2_with (go_at_call 61; refine (nan_calls _ _).mono ?_; rintro e w' ⟨rfl, n, rfl⟩)
      go_ret
      exact ⟨by simp [cmpS, h1, h2], by repeat (first | exact Below.refl _ _ | apply pw_below_drewN | apply below_drew1)⟩
end Go.Proofs.Ytgbdohidlndhjaa.ECmp
