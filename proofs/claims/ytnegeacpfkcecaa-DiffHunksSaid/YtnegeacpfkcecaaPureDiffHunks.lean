/- Proved: the law DiffHunks answers true for every two lists. No condition. -/
import Derived.Test.YtnegeacpfkcecaaXDiffx0
import Derived.Test.YtnegeacpfkcecaaXDiffx1
import Derived.Test.YtnegeacpfkcecaaXDiffx7
import Derived.Test.YtnegeacpfkcecaaXDiffx12
import Derived.Test.YtnegeacpfkcecaaPureDiffCore
import Derived.Test.YtnegeacpfkcecaaPureDiffRef
namespace Go.Proofs.Ytnegeacpfkcecaa.Pure
open Go.RowKit Go.Proofs.Ytnegeacpfkcecaa.XDiff Go.Proofs.YtnegeacpfkcecaaW.PrintWords Go.Proofs.YtnegeacpfkcecaaW.PrintLast Go.Proofs.YtnegeacpfkcecaaW.PrintMore
open Go.Proofs.Ytnegeacpfkcecaa.DiffSpec Go.Proofs.Ytnegeacpfkcecaa.DiffTable Go.Proofs.Ytnegeacpfkcecaa.DiffOps Go.Proofs.Ytnegeacpfkcecaa.DiffAlike Go.Proofs.Ytnegeacpfkcecaa.DiffWalk Go.Proofs.Ytnegeacpfkcecaa.DiffRef Go.Proofs.Ytnegeacpfkcecaa.DiffCore

theorem diffHunks_main (a b : L) (ha : a.length ≤ 60) (hb : b.length ≤ 60) (la : Ev (fun k => rafterlaw03_Light.f k a) true) (lb : Ev (fun k => rafterlaw03_Light.f k b) true) : Ev (fun k => rafterlaw04_DiffHunks.f k a b) true := by
  obtain ⟨f1, f2, f3, f4⟩ := facts a b
  obtain ⟨t1, t2, t3⟩ := there_back (hk a b 0 none) a b (by omega) (by omega) f1 f2 (by omega)
  have hm := (mild_of _ a b f1 f2 (by omega) (by omega)).1
  have h1 := hunks_ev a b (by omega) (by omega)
  have h5 := size_ev (hk a b 0 none) hm.1 (by omega) (by omega)
  have h6 := alike_ev a b (by omega) (by omega)
  have h7 := own_ev a b (by omega) (by omega)
  have h8 := ref_ev a b (by omega) (by omega)
  have h9 := refsame_ev (hk a b 0 none) hm.1 (fun h hh => ⟨(hm.2 h hh).2.1, (hm.2 h hh).2.2⟩)
  have s1 := same_ev b b (by omega)
  have s2 := same_ev a a (by omega)
  rw [decide_eq_true rfl] at s1 s2
  have hrow : rd_L4 (RR a b) (a.length : Int) = R a b 0 := by rw [RR_row a b _ (Nat.le_refl _), Nat.sub_self]
  have hlen : (R a b 0).length = b.length + 1 := rowf_len _ _
  have hn : rd (R a b 0) 0 = ((lcs a b : Nat) : Int) := rowf_rd (b.length + 1) (al a b 0) 0 (by omega)
  have hRl := RR_len a b
  have w1 : wrap64 ((a.length : Int) - ((lcs a b : Nat) : Int)) = ((sumO (hk a b 0 none) : Nat) : Int) := by rw [wrap64_in _ (by omega)]; omega
  have w2 : wrap64 ((b.length : Int) - ((lcs a b : Nat) : Int)) = ((sumN (hk a b 0 none) : Nat) : Int) := by rw [wrap64_in _ (by omega)]; omega
  generalize hk a b 0 none = l at *
  refine Ev.congr (fun k => by unfold rafterlaw04_DiffHunks.f; rfl) (Ev.bind la ?_)
  refine Ev.congr (fun k => by rw [if_pos rfl]) (Ev.bind lb ?_)
  refine Ev.congr (fun k => by rw [if_pos rfl]) ?_
  refine Ev.bind h1 (Ev.bind t1 (Ev.bind t2 (Ev.bind t3 (Ev.bind h6 ?_))))
  rw [hrow, hn, w1, w2]
  refine Ev.congr (fun k => by rw [if_pos (by omega), if_pos (by omega), if_pos (by omega)]) (Ev.bind h5 (Ev.bind awake_ev ?_))
  refine Ev.congr (fun k => by rw [if_pos rfl]) (Ev.bind h8 (Ev.bind h9 ?_))
  refine Ev.congr (fun k => by rw [if_pos rfl, if_pos rfl]) (Ev.bind s1 ?_)
  refine Ev.congr (fun k => by rw [if_pos rfl, if_pos rfl]) (Ev.bind s2 ?_)
  refine Ev.congr (fun k => by rw [if_pos rfl]) (Ev.bind h7 ?_)
  refine Ev.congr (f := fun _ => some true) (fun k => by rw [if_pos rfl, if_pos rfl]; simp) (Ev.now _)
theorem DiffHunks : rafterlaw04_DiffHunks.Pure := by
  intro x0 x1 h0 _ h1 _
  refine Ev.rounds ?_
  obtain ⟨b0, e0, p0⟩ := light_ev x0 h0
  obtain ⟨b1, e1, p1⟩ := light_ev x1 h1
  have hbad : Ev (fun k => (rafterlaw04_awake.f k).bind fun t => some t) true := Ev.bind awake_ev (Ev.now _)
  cases b0 with
  | false => exact Ev.congr (fun k => by unfold rafterlaw04_DiffHunks.f; rfl) (Ev.bind e0 (Ev.congr (fun k => by rw [if_neg (by simp)]) hbad))
  | true =>
    cases b1 with
    | false => exact Ev.congr (fun k => by unfold rafterlaw04_DiffHunks.f; rfl) (Ev.bind e0 (Ev.congr (fun k => by rw [if_pos rfl]) (Ev.bind e1 (Ev.congr (fun k => by rw [if_neg (by simp)]) hbad))))
    | true => exact diffHunks_main x0 x1 (p0 rfl) (p1 rfl) e0 e1
end Go.Proofs.Ytnegeacpfkcecaa.Pure
