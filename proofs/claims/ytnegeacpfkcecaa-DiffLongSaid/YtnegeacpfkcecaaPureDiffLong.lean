/- Proved: the law DiffLong answers true for every two lists and every number. No condition. -/
import Derived.Test.YtnegeacpfkcecaaXDiffx1
import Derived.Test.YtnegeacpfkcecaaXDiffx2
import Derived.Test.YtnegeacpfkcecaaXDiffx5
import Derived.Test.YtnegeacpfkcecaaXDiffx6
import Derived.Test.YtnegeacpfkcecaaXDiffx7
import Derived.Test.YtnegeacpfkcecaaXDiffx13
import Derived.Test.YtnegeacpfkcecaaPureDiffCore
import Derived.Test.YtnegeacpfkcecaaPureDiffWhole
namespace Go.Proofs.Ytnegeacpfkcecaa.Pure
set_option linter.unusedVariables false
open Go.RowKit Go.Proofs.Ytnegeacpfkcecaa.XDiff Go.Proofs.YtnegeacpfkcecaaW.PrintWords Go.Proofs.YtnegeacpfkcecaaW.PrintLast Go.Proofs.YtnegeacpfkcecaaW.PrintMore
open Go.Proofs.Ytnegeacpfkcecaa.DiffSpec Go.Proofs.Ytnegeacpfkcecaa.DiffTable Go.Proofs.Ytnegeacpfkcecaa.DiffOps Go.Proofs.Ytnegeacpfkcecaa.DiffCore Go.Proofs.Ytnegeacpfkcecaa.DiffWhole

theorem diffLong_main (a b : L) (z : Int) (hz0 : 0 ≤ z) (hz1 : z ≤ 65535) (ha : a.length ≤ 60) (hb : b.length ≤ 60) (la : Ev (fun k => rafterlaw03_Light.f k a) true) (lb : Ev (fun k => rafterlaw03_Light.f k b) true) : Ev (fun k => rafterlaw04_DiffLong.f k a b z) true := by
  have hmod : Int.tmod z 50 = z % 50 := Int.tmod_eq_emod_of_nonneg hz0
  obtain ⟨m, hm, hm1, hm2⟩ : ∃ m : Nat, wrap64 (401 + wrap64 (Int.tmod z 50)) = (m : Int) ∧ 401 ≤ m ∧ m ≤ 450 := by
    refine ⟨(401 + z % 50).toNat, ?_, by omega, by omega⟩
    rw [hmod, wrap64_in (z % 50) (by omega), wrap64_in _ (by omega)]
    omega
  obtain ⟨mid, hmid⟩ : ∃ mid : L, mid = List.replicate m (⟨#[]⟩ : ByteArray) := ⟨_, rfl⟩
  have hml : mid.length = m := by rw [hmid, List.length_replicate]
  obtain ⟨X, hX⟩ : ∃ X : L, X = [] ++ a ++ mid := ⟨_, rfl⟩
  obtain ⟨Y, hY⟩ : ∃ Y : L, Y = [] ++ b ++ mid := ⟨_, rfl⟩
  have hXl : X.length = a.length + m := by rw [hX, List.nil_append, List.length_append, hml]
  have hYl : Y.length = b.length + m := by rw [hY, List.nil_append, List.length_append, hml]
  obtain ⟨l, w1, w2, w3, w4, w5, w6, w7⟩ := whole_ev X Y (by omega) (by omega)
  obtain ⟨t1, t2, t3⟩ := there_back l X Y (by omega) (by omega) w2 w3 (by omega)
  have h1 : Ev (fun k => diff_Hunks.f k X Y) l := by
    refine Ev.congr (f := fun k => (diff_whole.f k X Y).bind fun t => some t) (fun k => ?_) (Ev.bind w1 (Ev.now _))
    unfold diff_Hunks.f
    rw [if_pos (by unfold mx; split <;> omega)]
  have s0 := same_ev X Y (by omega)
  have s1 := same_ev Y Y (by omega)
  have s2 := same_ev X X (by omega)
  rw [decide_eq_true rfl] at s1 s2
  have hlen : (((l.length : Int) == 0) == decide (X = Y)) = true := by
    by_cases h : X = Y
    · rw [w5.2 h, decide_eq_true h]
      rfl
    · have hne : l.length ≠ 0 := fun e => h (w5.1 (List.eq_nil_of_length_eq_zero e))
      have e1 : ((l.length : Int) == 0) = false := beq_eq_false_iff_ne.2 (by omega)
      rw [decide_eq_false h, e1]
      rfl
  refine Ev.congr (fun k => by unfold rafterlaw04_DiffLong.f; rfl) (Ev.bind la ?_)
  refine Ev.congr (fun k => by rw [if_pos rfl]) (Ev.bind lb ?_)
  refine Ev.congr (f := fun k => (diff_Hunks.f k X Y).bind fun t367 => ((diff_Apply.f k X t367).bind fun bt370 => ((diff_Invert.f k t367).bind fun t374 => ((diff_Apply.f k Y t374).bind fun bt377 => ((rafterlaw04_awake.f k).bind fun t381 => (if t381 = true then (if (t367.length : Int) ≤ 1 then ((rafterref01_Same.f k X Y).bind fun t382 => (if (((t367.length : Int) == 0) == t382) = true then (if bt370.2 = 0 then ((rafterref01_Same.f k bt370.1 Y).bind fun t383 => (if t383 = true then (if bt377.2 = 0 then ((rafterref01_Same.f k bt377.1 X).bind fun t384 => (some t384)) else (some false)) else (some false))) else (some false)) else (some false))) else (some false)) else (some false))))))) (fun k => ?_) ?_
  · rw [if_pos rfl, hm, if_pos (by omega), Int.toNat_natCast, if_pos (by omega), ← hmid]
    simp only [Option.bind_some]
    rw [if_pos (by simp; omega), if_pos (by rw [List.nil_append, hml]; omega), if_pos (by simp; omega), if_pos (by rw [List.nil_append, hml]; omega), ← hX, ← hY]
  refine Ev.bind h1 (Ev.bind t1 (Ev.bind t2 (Ev.bind t3 (Ev.bind awake_ev ?_))))
  refine Ev.congr (fun k => by rw [if_pos rfl, if_pos (by omega)]) (Ev.bind s0 ?_)
  refine Ev.congr (fun k => by rw [if_pos hlen, if_pos rfl]) (Ev.bind s1 ?_)
  exact Ev.congr (fun k => by rw [if_pos rfl, if_pos rfl]) (Ev.bind s2 (Ev.now _))
theorem DiffLong : rafterlaw04_DiffLong.Pure := by
  intro x0 x1 x2 h0 _ h1 _ hz
  refine Ev.rounds ?_
  obtain ⟨b0, e0, p0⟩ := light_ev x0 h0
  obtain ⟨b1, e1, p1⟩ := light_ev x1 h1
  have hz' : 0 ≤ x2 ∧ x2 ≤ 65535 := by
    have e1 : IntKind.u16.min = 0 := by decide
    have e2 : IntKind.u16.max = 65535 := by decide
    simp [Lit.wf] at hz
    omega
  have hbad : Ev (fun k => (rafterlaw04_awake.f k).bind fun t => some t) true := Ev.bind awake_ev (Ev.now _)
  cases b0 with
  | false => exact Ev.congr (fun k => by unfold rafterlaw04_DiffLong.f; rfl) (Ev.bind e0 (Ev.congr (fun k => by rw [if_neg (by simp)]) hbad))
  | true =>
    cases b1 with
    | false => exact Ev.congr (fun k => by unfold rafterlaw04_DiffLong.f; rfl) (Ev.bind e0 (Ev.congr (fun k => by rw [if_pos rfl]) (Ev.bind e1 (Ev.congr (fun k => by rw [if_neg (by simp)]) hbad))))
    | true => exact diffLong_main x0 x1 x2 hz'.1 hz'.2 (p0 rfl) (p1 rfl) e0 e1
end Go.Proofs.Ytnegeacpfkcecaa.Pure
