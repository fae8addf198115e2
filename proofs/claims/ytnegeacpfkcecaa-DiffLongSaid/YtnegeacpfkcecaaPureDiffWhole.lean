/- Proved: what diff.whole tells of two lists: one hunk at most, that is done and taken back. Condition: lists of at most 400000 lines. -/
import Derived.Test.YtnegeacpfkcecaaXDiffx0
import Derived.Test.YtnegeacpfkcecaaXDiffx1
import Derived.Test.YtnegeacpfkcecaaXDiffx2
import Derived.Test.YtnegeacpfkcecaaPureDiffOps
namespace Go.Proofs.Ytnegeacpfkcecaa.DiffWhole
open Go.RowKit Go.Proofs.Ytnegeacpfkcecaa.XDiff Go.Proofs.YtnegeacpfkcecaaW.PrintWords Go.Proofs.YtnegeacpfkcecaaW.PrintLast Go.Proofs.YtnegeacpfkcecaaW.PrintMore
open Go.Proofs.Ytnegeacpfkcecaa.DiffSpec Go.Proofs.Ytnegeacpfkcecaa.DiffTable Go.Proofs.Ytnegeacpfkcecaa.DiffOps

/-- The one hunk between p lines ahead and e lines behind. -/
def one (a b : L) (p e : Nat) : List S66 := if (a.length - e - p) + (b.length - e - p) = 0 then [] else [⟨(p : Int), (a.take (a.length - e)).drop p, (b.take (b.length - e)).drop p⟩]
theorem j3_ev (a b : L) (ha : a.length ≤ 400000) (hb : b.length ≤ 400000) (p e : Nat) (h1 : p + e ≤ a.length) (h2 : p + e ≤ b.length) : Ev (fun k => diff_whole.j3 k a b (p : Int) (e : Int)) (one a b p e) := by
  refine Ev.step (f := fun _ => some (one a b p e)) (fun k => ?_) (Ev.now _)
  have w1 : wrap64 ((a.length : Int) - (e : Int)) = ((a.length - e : Nat) : Int) := by rw [wrap64_in _ (by omega)]; omega
  have w2 : wrap64 ((b.length : Int) - (e : Int)) = ((b.length - e : Nat) : Int) := by rw [wrap64_in _ (by omega)]; omega
  have n1 : ((a.take (a.length - e)).drop p).length = a.length - e - p := by rw [List.length_drop, List.length_take]; omega
  have n2 : ((b.take (b.length - e)).drop p).length = b.length - e - p := by rw [List.length_drop, List.length_take]; omega
  simp only [diff_whole.j3]
  rw [w1, w2, if_pos (by omega), if_pos (by omega), if_pos (by omega), Int.toNat_natCast, Int.toNat_natCast, Int.toNat_natCast]
  unfold slices_Clone_string_string.f
  rw [if_pos (by rw [n1]; omega), Option.bind_some, if_pos (by omega), if_pos (by omega), if_pos (by rw [n2]; omega), Option.bind_some, n1, n2, wrap64_in _ (by omega)]
  unfold one
  by_cases h : (a.length - e - p) + (b.length - e - p) = 0
  · rw [if_pos h, if_pos (by omega)]
  · rw [if_neg h, if_neg (by omega)]
theorem l1_ev (a b : L) (ha : a.length ≤ 400000) (hb : b.length ≤ 400000) (p : Nat) (hp1 : p ≤ a.length) (hp2 : p ≤ b.length) : ∀ d e : Nat, a.length - p - e = d → p + e ≤ a.length → p + e ≤ b.length → a.drop (a.length - e) = b.drop (b.length - e) →
    ∃ e', p + e' ≤ a.length ∧ p + e' ≤ b.length ∧ a.drop (a.length - e') = b.drop (b.length - e') ∧ Ev (fun k => diff_whole.l1 k a b (p : Int) (e : Int)) (one a b p e') := by
  intro d
  induction d with
  | zero =>
    intro e hd h1 h2 he
    refine ⟨e, h1, h2, he, Ev.step (fun k => ?_) (j3_ev a b ha hb p e h1 h2)⟩
    simp only [diff_whole.l1]
    rw [if_neg (by rw [wrap64_in _ (by unfold mn; split <;> omega)]; unfold mn; split <;> omega)]
  | succ d ih =>
    intro e hd h1 h2 he
    by_cases hlt : p + e < b.length
    · have i1 : a.length - 1 - e < a.length := by omega
      have i2 : b.length - 1 - e < b.length := by omega
      have w1 : wrap64 (wrap64 ((a.length : Int) - 1) - (e : Int)) = ((a.length - 1 - e : Nat) : Int) := by rw [wrap64_in ((a.length : Int) - 1) (by omega), wrap64_in _ (by omega)]; omega
      have w2 : wrap64 (wrap64 ((b.length : Int) - 1) - (e : Int)) = ((b.length - 1 - e : Nat) : Int) := by rw [wrap64_in ((b.length : Int) - 1) (by omega), wrap64_in _ (by omega)]; omega
      by_cases hc : a[a.length - 1 - e] = b[b.length - 1 - e]
      · have he' : a.drop (a.length - (e + 1)) = b.drop (b.length - (e + 1)) := by
          have e1 : a.length - (e + 1) = a.length - 1 - e := by omega
          have e2 : b.length - (e + 1) = b.length - 1 - e := by omega
          rw [e1, e2, List.drop_eq_getElem_cons i1, List.drop_eq_getElem_cons i2, hc]
          have e3 : a.length - 1 - e + 1 = a.length - e := by omega
          have e4 : b.length - 1 - e + 1 = b.length - e := by omega
          rw [e3, e4, he]
        obtain ⟨e', q1, q2, q3, q4⟩ := ih (e + 1) (by omega) (by omega) (by omega) he'
        refine ⟨e', q1, q2, q3, Ev.step (fun k => ?_) q4⟩
        simp only [diff_whole.l1]
        rw [if_pos (by rw [wrap64_in _ (by unfold mn; split <;> omega)]; unfold mn; split <;> omega), w1, w2, if_pos (by omega), if_pos (by omega), if_pos (by omega), if_pos (by omega), rd_nat a _ i1, rd_nat b _ i2, if_pos (by rw [hc]), wrap_nat e (by omega)]
      · refine ⟨e, h1, h2, he, Ev.step (fun k => ?_) (j3_ev a b ha hb p e h1 h2)⟩
        simp only [diff_whole.l1]
        rw [if_pos (by rw [wrap64_in _ (by unfold mn; split <;> omega)]; unfold mn; split <;> omega), w1, w2, if_pos (by omega), if_pos (by omega), if_pos (by omega), if_pos (by omega), rd_nat a _ i1, rd_nat b _ i2, if_neg (by rw [toList_inj]; exact hc)]
    · refine ⟨e, h1, h2, he, Ev.step (fun k => ?_) (j3_ev a b ha hb p e h1 h2)⟩
      simp only [diff_whole.l1]
      rw [if_neg (by rw [wrap64_in _ (by unfold mn; split <;> omega)]; unfold mn; split <;> omega)]
theorem l0_ev (a b : L) (ha : a.length ≤ 400000) (hb : b.length ≤ 400000) : ∀ d p : Nat, a.length - p = d → p ≤ a.length → p ≤ b.length → a.take p = b.take p →
    ∃ p' e', p' + e' ≤ a.length ∧ p' + e' ≤ b.length ∧ a.take p' = b.take p' ∧ a.drop (a.length - e') = b.drop (b.length - e') ∧ (a = b → p' = a.length) ∧ Ev (fun k => diff_whole.l0 k a b (p : Int)) (one a b p' e') := by
  intro d
  induction d with
  | zero =>
    intro p hd h1 h2 ht
    obtain ⟨e', q1, q2, q3, q4⟩ := l1_ev a b ha hb p h1 h2 _ 0 rfl (by omega) (by omega) (by simp)
    refine ⟨p, e', q1, q2, ht, q3, fun _ => by omega, Ev.step (f := fun k => diff_whole.j1 k a b (p : Int)) (fun k => ?_) (Ev.step (fun k => ?_) q4)⟩
    · simp only [diff_whole.l0]
      rw [if_neg (by unfold mn; split <;> omega)]
    · simp only [diff_whole.j1]
      rfl
  | succ d ih =>
    intro p hd h1 h2 ht
    have i1 : p < a.length := by omega
    by_cases i2 : p < b.length
    · by_cases hc : a[p] = b[p]
      · obtain ⟨p', e', q1, q2, q3, q4, q5, q6⟩ := ih (p + 1) (by omega) (by omega) (by omega) (by rw [List.take_succ_eq_append_getElem i1, List.take_succ_eq_append_getElem i2, ht, hc])
        refine ⟨p', e', q1, q2, q3, q4, q5, Ev.step (fun k => ?_) q6⟩
        simp only [diff_whole.l0]
        rw [if_pos (by unfold mn; split <;> omega), if_pos (by omega), if_pos (by omega), if_pos (by omega), rd_nat a p i1, rd_nat b p i2, if_pos (by rw [hc]), wrap_nat p (by omega)]
      · obtain ⟨e', q1, q2, q3, q4⟩ := l1_ev a b ha hb p h1 h2 _ 0 rfl (by omega) (by omega) (by simp)
        refine ⟨p, e', q1, q2, ht, q3, fun e => absurd (by subst e; rfl) hc, Ev.step (f := fun k => diff_whole.j1 k a b (p : Int)) (fun k => ?_) (Ev.step (fun k => ?_) q4)⟩
        · simp only [diff_whole.l0]
          rw [if_pos (by unfold mn; split <;> omega), if_pos (by omega), if_pos (by omega), if_pos (by omega), rd_nat a p i1, rd_nat b p i2, if_neg (by rw [toList_inj]; exact hc)]
        · simp only [diff_whole.j1]
          rfl
    · obtain ⟨e', q1, q2, q3, q4⟩ := l1_ev a b ha hb p h1 h2 _ 0 rfl (by omega) (by omega) (by simp)
      refine ⟨p, e', q1, q2, ht, q3, fun e => by subst e; omega, Ev.step (f := fun k => diff_whole.j1 k a b (p : Int)) (fun k => ?_) (Ev.step (fun k => ?_) q4)⟩
      · simp only [diff_whole.l0]
        rw [if_neg (by unfold mn; split <;> omega)]
      · simp only [diff_whole.j1]
        rfl
theorem mid_eq (a : L) (p e : Nat) (h : p + e ≤ a.length) : a.take p ++ (a.take (a.length - e)).drop p ++ a.drop (a.length - e) = a := by
  have h1 : a.take p = (a.take (a.length - e)).take p := by rw [List.take_take, Nat.min_eq_left (by omega)]
  rw [h1, List.take_append_drop, List.take_append_drop]
theorem whole_ev (a b : L) (ha : a.length ≤ 400000) (hb : b.length ≤ 400000) :
    ∃ l, Ev (fun k => diff_whole.f k a b) l ∧ appl 0 a l = some b ∧ chk none l = true ∧ l.length ≤ 1 ∧ (l = [] ↔ a = b) ∧ sumO l ≤ a.length ∧ sumN l ≤ b.length := by
  obtain ⟨p, e, q1, q2, q3, q4, q5, q6⟩ := l0_ev a b ha hb _ 0 rfl (by omega) (by omega) (by simp)
  have ma := mid_eq a p e q1
  have mb := mid_eq b p e q2
  have n1 : ((a.take (a.length - e)).drop p).length = a.length - e - p := by rw [List.length_drop, List.length_take]; omega
  have n2 : ((b.take (b.length - e)).drop p).length = b.length - e - p := by rw [List.length_drop, List.length_take]; omega
  refine ⟨one a b p e, q6, ?_⟩
  unfold one
  by_cases h : (a.length - e - p) + (b.length - e - p) = 0
  · rw [if_pos h]
    have ea : (a.take (a.length - e)).drop p = [] := List.eq_nil_of_length_eq_zero (by omega)
    have eb : (b.take (b.length - e)).drop p = [] := List.eq_nil_of_length_eq_zero (by omega)
    rw [ea] at ma
    rw [eb] at mb
    have hab : a = b := by rw [← ma, ← mb, q3, q4]
    exact ⟨by rw [appl, hab], rfl, by simp, ⟨fun _ => hab, fun _ => rfl⟩, by simp [sumO], by simp [sumN]⟩
  · rw [if_neg h]
    refine ⟨?_, ?_, by simp, ⟨fun e0 => by simp at e0, fun hab => ?_⟩, ?_, ?_⟩
    · have hs := appl_step (s := 0) (pre := a.take p) (rest := a.drop (a.length - e)) (r := a.drop (a.length - e)) (h := ⟨(p : Int), (a.take (a.length - e)).drop p, (b.take (b.length - e)).drop p⟩) (l := []) (by simp) (by simp; omega) (by rw [appl])
      simp only at hs
      rw [ma] at hs
      rw [hs, q3, q4, mb]
    · exact (chk_cons _ _ _).2 ⟨by simp, by simp only [n1, n2]; omega, fun q hq => (by cases hq), rfl⟩
    · have := q5 hab
      subst hab
      omega
    · rw [sumO_cons]
      simp only [n1]
      simp only [sumO, List.map_nil, List.sum_nil]
      omega
    · rw [sumN_cons]
      simp only [n2]
      simp only [sumN, List.map_nil, List.sum_nil]
      omega
end Go.Proofs.Ytnegeacpfkcecaa.DiffWhole
