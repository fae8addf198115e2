/- Proved: the law DiffApplies answers true for every list and any hunks. No condition. -/
import Derived.Test.YtnegeacpfkcecaaXDiffx0
import Derived.Test.YtnegeacpfkcecaaXDiffx1
import Derived.Test.YtnegeacpfkcecaaXDiffx7
import Derived.Test.YtnegeacpfkcecaaXDiffx9
import Derived.Test.YtnegeacpfkcecaaXDiffx14
import Derived.Test.YtnegeacpfkcecaaXDiffx15
import Derived.Test.YtnegeacpfkcecaaXDiffx16
import Derived.Test.YtnegeacpfkcecaaPureDiffCore
namespace Go.Proofs.Ytnegeacpfkcecaa.Pure
set_option linter.unusedVariables false
open Go.RowKit Go.Proofs.Ytnegeacpfkcecaa.XDiff Go.Proofs.YtnegeacpfkcecaaW.PrintWords Go.Proofs.YtnegeacpfkcecaaW.PrintLast Go.Proofs.YtnegeacpfkcecaaW.PrintMore
open Go.Proofs.Ytnegeacpfkcecaa.DiffSpec Go.Proofs.Ytnegeacpfkcecaa.DiffTable Go.Proofs.Ytnegeacpfkcecaa.DiffOps Go.Proofs.Ytnegeacpfkcecaa.DiffCore

/-! ### Light hunks -/
theorem hlight_ev (l : List S66) (hl : l.length ≤ 9223372036854775807) (hb : ∀ h ∈ l, h.f1.length ≤ 9223372036854775807 ∧ h.f2.length ≤ 9223372036854775807) :
    ∃ b : Bool, Ev (fun k => rafterlaw04_Light.f k l) b ∧ (b = true → l.length ≤ 30 ∧ ∀ h ∈ l, h.f1.length ≤ 60 ∧ h.f2.length ≤ 60) := by
  have key : ∀ d i : Nat, l.length - i = d → i ≤ l.length → (∀ h ∈ l.take i, h.f1.length ≤ 60 ∧ h.f2.length ≤ 60) →
      ∃ b : Bool, Ev (fun k => rafterlaw04_Light.l0 k l (i : Int)) b ∧ (b = true → l.length ≤ 30 ∧ ∀ h ∈ l, h.f1.length ≤ 60 ∧ h.f2.length ≤ 60) := by
    intro d
    induction d with
    | zero =>
      intro i hd hi ht
      rw [List.take_of_length_le (by omega)] at ht
      refine ⟨decide ((l.length : Int) ≤ 30), Ev.step (f := fun _ => some (decide ((l.length : Int) ≤ 30))) (fun k => ?_) (Ev.now _), fun h => ⟨by have := of_decide_eq_true h; omega, ht⟩⟩
      simp only [rafterlaw04_Light.l0]
      rw [if_neg (by omega)]
    | succ d ih =>
      intro i hd hi ht
      have h1 : i < l.length := by omega
      have hbi := hb l[i] (List.getElem_mem h1)
      obtain ⟨b1, e1, p1⟩ := light_ev l[i].f1 hbi.1
      obtain ⟨b2, e2, p2⟩ := light_ev l[i].f2 hbi.2
      have run : ∀ k, rafterlaw04_Light.l0 (k + 1) l (i : Int) = (rafterlaw03_Light.f k l[i].f1).bind fun t388 => if t388 = true then (rafterlaw03_Light.f k l[i].f2).bind fun t390 => if t390 = true then rafterlaw04_Light.l0 k l ((i + 1 : Nat) : Int) else some false else some false := by
        intro k
        simp only [rafterlaw04_Light.l0]
        rw [if_pos (by omega), if_pos (by omega), rdT l i h1, wrap_nat i (by omega)]
      cases b1 with
      | false => exact ⟨false, Ev.step run (Ev.bind e1 (Ev.congr (f := fun _ => some false) (fun k => by rw [if_neg (by simp)]) (Ev.now _))), fun h => by cases h⟩
      | true =>
        cases b2 with
        | false => exact ⟨false, Ev.step run (Ev.bind e1 (Ev.congr (fun k => by rw [if_pos rfl]) (Ev.bind e2 (Ev.congr (f := fun _ => some false) (fun k => by rw [if_neg (by simp)]) (Ev.now _))))), fun h => by cases h⟩
        | true =>
          obtain ⟨b, e, p⟩ := ih (i + 1) (by omega) (by omega) (fun h hh => by
            rw [List.take_succ_eq_append_getElem h1, List.mem_append, List.mem_singleton] at hh
            rcases hh with hh | rfl
            · exact ht h hh
            · exact ⟨p1 rfl, p2 rfl⟩)
          exact ⟨b, Ev.step run (Ev.bind e1 (Ev.congr (fun k => by rw [if_pos rfl]) (Ev.bind e2 (Ev.congr (fun k => by rw [if_pos rfl]) e)))), p⟩
  obtain ⟨b, e, p⟩ := key _ 0 rfl (by omega) (fun h hh => by simp at hh)
  exact ⟨b, Ev.congr (fun k => by unfold rafterlaw04_Light.f; rfl) e, p⟩
/-! ### The same hunks -/
def hsb : List S66 → List S66 → Bool
  | [], [] => true
  | [], _ :: _ => false
  | _ :: _, [] => false
  | x :: a, y :: b => decide (x.f0 = y.f0) && decide (x.f1 = y.f1) && decide (x.f2 = y.f2) && hsb a b
theorem hsb_len : ∀ (a b : List S66), a.length ≠ b.length → hsb a b = false
  | [], [], h => absurd rfl h
  | [], _ :: _, _ => rfl
  | _ :: _, [], _ => rfl
  | x :: a, y :: b, h => by
    simp only [hsb]
    rw [hsb_len a b (by simpa using h), Bool.and_false]
theorem refsame2_ev (a b : List S66) (hl : a.length ≤ 1000000) (hb : ∀ h ∈ a, h.f1.length ≤ 1000000 ∧ h.f2.length ≤ 1000000) : Ev (fun k => rafterref04_Same.f k a b) (hsb a b) := by
  by_cases hab : a.length = b.length
  · have key : ∀ d i : Nat, a.length - i = d → i ≤ a.length → Ev (fun k => rafterref04_Same.l0 k a b (i : Int)) (hsb (a.drop i) (b.drop i)) := by
      intro d
      induction d with
      | zero =>
        intro i hd hi
        rw [List.drop_of_length_le (by omega), List.drop_of_length_le (by omega)]
        refine Ev.step (f := fun _ => some true) (fun k => ?_) (Ev.now _)
        simp only [rafterref04_Same.l0]
        rw [if_neg (by omega)]
      | succ d ih =>
        intro i hd hi
        have h1 : i < a.length := by omega
        have h2 : i < b.length := by omega
        have hbi := hb a[i] (List.getElem_mem h1)
        have s1 := same_ev a[i].f1 b[i].f1 (by omega)
        have s2 := same_ev a[i].f2 b[i].f2 (by omega)
        rw [List.drop_eq_getElem_cons h1, List.drop_eq_getElem_cons h2]
        simp only [hsb]
        have bad : ∀ c : Bool, c = false → Ev (fun k => rafterref04_Same.j1 k a b (i : Int) true) c := by
          intro c hc
          subst hc
          refine Ev.step (f := fun _ => some false) (fun k => ?_) (Ev.now _)
          simp only [rafterref04_Same.j1]
          rfl
        by_cases e0 : a[i].f0 = b[i].f0
        · have run : ∀ k, rafterref04_Same.l0 (k + 1) a b (i : Int) = (rafterref01_Same.f k a[i].f1 b[i].f1).bind fun t264 => (if t264 = true then ((rafterref01_Same.f k a[i].f2 b[i].f2).bind fun t267 => (rafterref04_Same.j1 k a b (i : Int) (!t267))) else (rafterref04_Same.j1 k a b (i : Int) true)) := by
            intro k
            simp only [rafterref04_Same.l0]
            rw [if_pos (by omega), if_pos (by omega), if_pos (by omega), rdT a i h1, rdT b i h2, if_pos e0]
          refine Ev.step run (Ev.bind s1 ?_)
          by_cases e1 : a[i].f1 = b[i].f1
          · rw [decide_eq_true e1]
            refine Ev.congr (fun k => by rw [if_pos rfl]) (Ev.bind s2 ?_)
            by_cases e2 : a[i].f2 = b[i].f2
            · rw [decide_eq_true e2]
              refine Ev.step (f := fun k => rafterref04_Same.l0 k a b ((i + 1 : Nat) : Int)) (fun k => ?_) ?_
              · simp only [rafterref04_Same.j1]
                rw [if_neg (by simp), wrap_nat i (by omega)]
              · have := ih (i + 1) (by omega) (by omega)
                rw [decide_eq_true e0]
                simpa using this
            · rw [decide_eq_false e2]
              exact bad _ (by simp)
          · rw [decide_eq_false e1]
            exact Ev.congr (fun k => by rw [if_neg (by simp)]) (bad _ (by simp))
        · refine Ev.step (f := fun k => rafterref04_Same.j1 k a b (i : Int) true) (fun k => ?_) (bad _ (by rw [decide_eq_false e0]; simp))
          simp only [rafterref04_Same.l0]
          rw [if_pos (by omega), if_pos (by omega), if_pos (by omega), rdT a i h1, rdT b i h2, if_neg e0]
    refine Ev.congr (f := fun k => rafterref04_Same.l0 k a b ((0 : Nat) : Int)) (fun k => ?_) (key _ 0 rfl (by omega))
    unfold rafterref04_Same.f
    rw [if_pos (by omega)]
    rfl
  · rw [hsb_len a b hab]
    refine Ev.congr (f := fun _ => some false) (fun k => ?_) (Ev.now _)
    unfold rafterref04_Same.f
    rw [if_neg (by omega)]
theorem dsame_ev (a b : List S66) (hl : a.length ≤ 1000000) (hb : ∀ h ∈ a, h.f1.length ≤ 1000000 ∧ h.f2.length ≤ 1000000) : Ev (fun k => diff_Same.f k a b) (hsb a b) := by
  have main : Ev (fun k => slices_EqualFunc_api_Hunk_api_Hunk_api_Hunk_api_Hunk__diff_Same_1.f k a b) (hsb a b) := by
    by_cases hab : a.length = b.length
    · have key : ∀ d i : Nat, a.length - i = d → i ≤ a.length → Ev (fun k => slices_EqualFunc_api_Hunk_api_Hunk_api_Hunk_api_Hunk__diff_Same_1.l0 k b a (a.length : Int) (i : Int)) (hsb (a.drop i) (b.drop i)) := by
        intro d
        induction d with
        | zero =>
          intro i hd hi
          rw [List.drop_of_length_le (by omega), List.drop_of_length_le (by omega)]
          refine Ev.step (f := fun _ => some true) (fun k => ?_) (Ev.now _)
          simp only [slices_EqualFunc_api_Hunk_api_Hunk_api_Hunk_api_Hunk__diff_Same_1.l0]
          rw [if_neg (by omega)]
        | succ d ih =>
          intro i hd hi
          have h1 : i < a.length := by omega
          have h2 : i < b.length := by omega
          have hbi := hb a[i] (List.getElem_mem h1)
          have s1 := lsame_ev a[i].f1 b[i].f1 (by omega)
          have s2 := lsame_ev a[i].f2 b[i].f2 (by omega)
          rw [List.drop_eq_getElem_cons h1, List.drop_eq_getElem_cons h2]
          simp only [hsb]
          have one : Ev (fun k => diff_Same_1.f k a[i].f0 a[i].f1 a[i].f2 b[i].f0 b[i].f1 b[i].f2) (decide (a[i].f0 = b[i].f0) && decide (a[i].f1 = b[i].f1) && decide (a[i].f2 = b[i].f2)) := by
            by_cases e0 : a[i].f0 = b[i].f0
            · refine Ev.congr (fun k => by unfold diff_Same_1.f; rw [if_pos e0]) (Ev.bind s1 ?_)
              by_cases e1 : a[i].f1 = b[i].f1
              · rw [decide_eq_true e1, decide_eq_true e0]
                refine Ev.congr (fun k => by rw [if_pos rfl]) (Ev.bind s2 ?_)
                simpa using Ev.now _
              · rw [decide_eq_false e1, Bool.and_false, Bool.false_and]
                exact Ev.congr (f := fun _ => some false) (fun k => by rw [if_neg (by simp)]) (Ev.now _)
            · rw [decide_eq_false e0, Bool.false_and, Bool.false_and]
              exact Ev.congr (f := fun _ => some false) (fun k => by unfold diff_Same_1.f; rw [if_neg e0]) (Ev.now _)
          have run : ∀ k, slices_EqualFunc_api_Hunk_api_Hunk_api_Hunk_api_Hunk__diff_Same_1.l0 (k + 1) b a (a.length : Int) (i : Int) = (diff_Same_1.f k a[i].f0 a[i].f1 a[i].f2 b[i].f0 b[i].f1 b[i].f2).bind fun t405 => if t405 = true then slices_EqualFunc_api_Hunk_api_Hunk_api_Hunk_api_Hunk__diff_Same_1.l0 k b a (a.length : Int) ((i + 1 : Nat) : Int) else some false := by
            intro k
            simp only [slices_EqualFunc_api_Hunk_api_Hunk_api_Hunk_api_Hunk__diff_Same_1.l0]
            rw [if_pos (by omega), if_pos (by omega), if_pos (by omega), if_pos (by omega), rdT a i h1, rdT b i h2, wrap_nat i (by omega)]
          refine Ev.step run (Ev.bind one ?_)
          cases hc : (decide (a[i].f0 = b[i].f0) && decide (a[i].f1 = b[i].f1) && decide (a[i].f2 = b[i].f2)) with
          | true =>
            rw [Bool.true_and]
            exact Ev.congr (fun k => by rw [if_pos rfl]) (ih (i + 1) (by omega) (by omega))
          | false =>
            rw [Bool.false_and]
            exact Ev.congr (f := fun _ => some false) (fun k => by rw [if_neg (by simp)]) (Ev.now _)
      refine Ev.congr (f := fun k => slices_EqualFunc_api_Hunk_api_Hunk_api_Hunk_api_Hunk__diff_Same_1.l0 k b a (a.length : Int) ((0 : Nat) : Int)) (fun k => ?_) (key _ 0 rfl (by omega))
      unfold slices_EqualFunc_api_Hunk_api_Hunk_api_Hunk_api_Hunk__diff_Same_1.f
      rw [if_pos (by omega)]
      rfl
    · rw [hsb_len a b hab]
      refine Ev.congr (f := fun _ => some false) (fun k => ?_) (Ev.now _)
      unfold slices_EqualFunc_api_Hunk_api_Hunk_api_Hunk_api_Hunk__diff_Same_1.f
      rw [if_neg (by omega)]
  exact Ev.congr (fun k => by unfold diff_Same.f; rfl) (Ev.bind main (Ev.now _))
/-! ### rafterref04.May -/
theorem may_ev (l : List S66) (hm : Mild l) : Ev (fun k => rafterref04_May.f k l) (chk none l) := by
  obtain ⟨hl, hb⟩ := hm
  have key : ∀ d i : Nat, l.length - i = d → i ≤ l.length → (∀ q, prev l i = some q → 0 ≤ q.f0) → Ev (fun k => rafterref04_May.l0 k l (i : Int)) (chk (prev l i) (l.drop i)) := by
    intro d
    induction d with
    | zero =>
      intro i hd hi _
      rw [List.drop_of_length_le (by omega)]
      refine Ev.step (f := fun _ => some true) (fun k => ?_) (Ev.now _)
      simp only [rafterref04_May.l0]
      rw [if_neg (by omega)]
    | succ d ih =>
      intro i hd hi hpos
      have h1 : i < l.length := by omega
      have hbi := hb l[i] (List.getElem_mem h1)
      rw [List.drop_eq_getElem_cons h1]
      have hprev : prev l (i + 1) = some l[i] := by unfold prev; rw [if_neg (by omega), Nat.add_sub_cancel, List.getElem?_eq_getElem h1]
      have bad : ∀ (c : Bool), c = false → Ev (fun k => rafterref04_May.j1 k l (i : Int) true) c := by
        intro c hc
        subst hc
        refine Ev.step (f := fun _ => some false) (fun k => ?_) (Ev.now _)
        simp only [rafterref04_May.j1]
        rfl
      by_cases c1 : l[i].f0 < 0
      · refine Ev.step (f := fun k => rafterref04_May.j1 k l (i : Int) true) (fun k => ?_) (bad _ ?_)
        · simp only [rafterref04_May.l0]
          rw [if_pos (by omega), if_pos (by omega), rdT l i h1, if_pos c1]
        · have e : decide (0 ≤ l[i].f0) = false := decide_eq_false (by omega)
          simp only [chk, e, Bool.false_and]
      have run : ∀ k, rafterref04_May.l0 (k + 1) l (i : Int) = rafterref04_May.j1 k l (i : Int) (decide (l[i].f1.length + l[i].f2.length = 0)) := by
        intro k
        simp only [rafterref04_May.l0]
        rw [if_pos (by omega), if_pos (by omega), rdT l i h1, if_neg c1]
        by_cases e : l[i].f1.length = 0
        · rw [if_pos (by omega)]
          congr 1
          rw [Bool.eq_iff_iff, beq_iff_eq, decide_eq_true_iff]
          omega
        · rw [if_neg (by omega), decide_eq_false (by omega)]
      refine Ev.step run ?_
      by_cases c2 : l[i].f1.length + l[i].f2.length = 0
      · rw [decide_eq_true c2]
        refine bad _ ?_
        have e : decide (0 < l[i].f1.length + l[i].f2.length) = false := decide_eq_false (by omega)
        simp only [chk, e, Bool.and_false, Bool.false_and]
      rw [decide_eq_false c2]
      have ihn := ih (i + 1) (by omega) (by omega) (fun q hq => by rw [hprev] at hq; obtain rfl := Option.some.inj hq; omega)
      rw [hprev] at ihn
      have e1 : decide (0 ≤ l[i].f0) = true := decide_eq_true (by omega)
      have e2 : decide (0 < l[i].f1.length + l[i].f2.length) = true := decide_eq_true (by omega)
      by_cases hi0 : i = 0
      · subst hi0
        refine Ev.step (f := fun k => rafterref04_May.l0 k l ((1 : Nat) : Int)) (fun k => ?_) ?_
        · simp only [rafterref04_May.j1]
          rw [if_neg (by simp), if_neg (by omega), wrap_nat 0 (by omega)]
        · simpa [chk, prev, e1, e2] using ihn
      · have hq : i - 1 < l.length := by omega
        have hbq := hb l[i - 1] (List.getElem_mem hq)
        have e0 : wrap64 ((i : Int) - 1) = ((i - 1 : Nat) : Int) := by rw [wrap64_in _ (by omega)]; omega
        have e3 : prev l i = some l[i - 1] := by unfold prev; rw [if_neg hi0, List.getElem?_eq_getElem hq]
        have hp := hpos _ e3
        by_cases c3 : l[i].f0 - l[i - 1].f0 ≤ (l[i - 1].f1.length : Int)
        · refine Ev.step (f := fun _ => some false) (fun k => ?_) ?_
          · simp only [rafterref04_May.j1]
            rw [if_neg (by simp), if_pos (by omega), if_pos (by omega), if_pos (by omega), e0, if_pos (by omega), if_pos (by omega), rdT l i h1, rdT l (i - 1) hq, wrap64_in _ (by omega), if_pos c3]
          · have e4 : decide (l[i].f0 - (l[i - 1].f1.length : Int) > l[i - 1].f0) = false := decide_eq_false (by omega)
            simp only [chk, e3, e4, Bool.and_false, Bool.false_and]
            exact Ev.now _
        · refine Ev.step (f := fun k => rafterref04_May.l0 k l ((i + 1 : Nat) : Int)) (fun k => ?_) ?_
          · simp only [rafterref04_May.j1]
            rw [if_neg (by simp), if_pos (by omega), if_pos (by omega), if_pos (by omega), e0, if_pos (by omega), if_pos (by omega), rdT l i h1, rdT l (i - 1) hq, wrap64_in _ (by omega), if_neg c3, wrap_nat i (by omega)]
          · have e4 : decide (l[i].f0 - (l[i - 1].f1.length : Int) > l[i - 1].f0) = true := decide_eq_true (by omega)
            simp only [chk, e3, e4, e1, e2, Bool.and_true, Bool.true_and]
            exact ihn
  exact Ev.congr (fun k => by unfold rafterref04_May.f; rfl) (key _ 0 rfl (by omega) (fun q hq => by simp [prev] at hq))
/-! ### rafterref03.At, rafterref04.Apply -/
theorem at_ev (a p : L) (s : Nat) (hs : s ≤ a.length) (ha : a.length ≤ 1000000) (hp : p.length ≤ 1000000) : Ev (fun k => rafterref03_At.f k a p (s : Int)) (decide ((a.drop s).take p.length = p)) := by
  have e0 : wrap64 ((a.length : Int) - (s : Int)) = ((a.length - s : Nat) : Int) := by rw [wrap64_in _ (by omega)]; omega
  by_cases hlen : p.length ≤ a.length - s
  · have key : ∀ d i : Nat, p.length - i = d → i ≤ p.length → (a.drop s).take i = p.take i → Ev (fun k => rafterref03_At.l0 k a p (s : Int) (i : Int)) (decide ((a.drop s).take p.length = p)) := by
      intro d
      induction d with
      | zero =>
        intro i hd hi ht
        have hi' : i = p.length := by omega
        subst hi'
        rw [List.take_length] at ht
        rw [decide_eq_true ht]
        refine Ev.step (f := fun _ => some true) (fun k => ?_) (Ev.now _)
        simp only [rafterref03_At.l0]
        rw [if_neg (by omega)]
      | succ d ih =>
        intro i hd hi ht
        have h1 : i < p.length := by omega
        have h2 : s + i < a.length := by omega
        have h3 : i < (a.drop s).length := by rw [List.length_drop]; omega
        have hw : wrap64 ((s : Int) + (i : Int)) = ((s + i : Nat) : Int) := by rw [wrap64_in _ (by omega)]; omega
        have hg : (a.drop s)[i] = a[s + i] := by rw [List.getElem_drop]
        by_cases he : a[s + i] = p[i]
        · refine Ev.step (f := fun k => rafterref03_At.l0 k a p (s : Int) ((i + 1 : Nat) : Int)) (fun k => ?_) (ih (i + 1) (by omega) (by omega) (by rw [List.take_succ_eq_append_getElem h3, List.take_succ_eq_append_getElem h1, ht, hg, he]))
          simp only [rafterref03_At.l0]
          rw [if_pos (by omega), hw, if_pos (by omega), if_pos (by omega), if_pos (by omega), rd_nat a (s + i) h2, rd_nat p i h1, if_pos (by rw [he]), wrap_nat i (by omega)]
        · have hne : ¬ ((a.drop s).take p.length = p) := by
            intro e
            have h4 : ((a.drop s).take p.length)[i]? = p[i]? := by rw [e]
            rw [List.getElem?_take, if_pos h1, List.getElem?_eq_getElem h3, List.getElem?_eq_getElem h1, hg] at h4
            exact he (Option.some.inj h4)
          rw [decide_eq_false hne]
          refine Ev.step (f := fun _ => some false) (fun k => ?_) (Ev.now _)
          simp only [rafterref03_At.l0]
          rw [if_pos (by omega), hw, if_pos (by omega), if_pos (by omega), if_pos (by omega), rd_nat a (s + i) h2, rd_nat p i h1, if_neg (by rw [toList_inj]; exact he)]
    refine Ev.congr (f := fun k => rafterref03_At.j0 k a p (s : Int) false) (fun k => ?_) (Ev.step (f := fun k => rafterref03_At.l0 k a p (s : Int) ((0 : Nat) : Int)) (fun k => ?_) (key _ 0 rfl (by omega) rfl))
    · unfold rafterref03_At.f
      rw [if_neg (by omega), e0, decide_eq_false (by omega)]
    · simp only [rafterref03_At.j0]
      rfl
  · have hne : ¬ ((a.drop s).take p.length = p) := by
      intro e
      have h4 : ((a.drop s).take p.length).length = p.length := by rw [e]
      rw [List.length_take, List.length_drop] at h4
      omega
    rw [decide_eq_false hne]
    refine Ev.congr (f := fun k => rafterref03_At.j0 k a p (s : Int) true) (fun k => ?_) (Ev.step (f := fun _ => some false) (fun k => ?_) (Ev.now _))
    · unfold rafterref03_At.f
      rw [if_neg (by omega), e0, decide_eq_true (by omega)]
    · simp only [rafterref03_At.j0]
      rfl
theorem appl_shift (t : List S66) (s s' : Nat) (a : L) (hs : s ≤ s') (ha : s' - s ≤ a.length) (hf : ∀ h, t.head? = some h → (s' : Int) ≤ h.f0) :
    appl s a t = (appl s' (a.drop (s' - s)) t).map (fun r => a.take (s' - s) ++ r) := by
  cases t with
  | nil => simp [appl]
  | cons h t =>
    have h1 := hf h rfl
    obtain ⟨f, hf0⟩ : ∃ f : Nat, h.f0 = (f : Int) := ⟨h.f0.toNat, by omega⟩
    have hsf : s' ≤ f := by omega
    simp only [appl]
    rw [hf0]
    simp only [Int.toNat_natCast]
    have e1 : f - s = (s' - s) + (f - s') := by omega
    have e2 : (a.drop (s' - s)).drop (f - s') = a.drop (f - s) := by rw [List.drop_drop, e1]
    have e3 : (a.drop (s' - s)).drop (f - s' + h.f1.length) = a.drop (f - s + h.f1.length) := by rw [List.drop_drop]; congr 1; omega
    rw [e2, e3, List.length_drop]
    by_cases c : f - s ≤ a.length ∧ (a.drop (f - s)).take h.f1.length = h.f1
    · rw [if_pos ⟨by omega, c.1, c.2⟩, if_pos ⟨by omega, by omega, c.2⟩, Option.map_map]
      congr 1
      funext r
      simp only [Function.comp]
      rw [e1, List.take_add]
      simp only [List.append_assoc]
    · rw [if_neg (fun z => c ⟨z.2.1, z.2.2⟩), if_neg (fun z => c ⟨by have := z.2.1; omega, z.2.2⟩)]
      rfl
theorem appl_len : ∀ (l : List S66) (s : Nat) (a r : L), appl s a l = some r → r.length ≤ a.length + sumN l
  | [], s, a, r, h => by
    simp only [appl] at h
    obtain rfl := Option.some.inj h
    omega
  | x :: l, s, a, r, h => by
    simp only [appl] at h
    split at h
    · rename_i hc
      obtain ⟨q, hq, rfl⟩ := Option.map_eq_some_iff.1 h
      have := appl_len l _ _ q hq
      rw [sumN_cons]
      simp only [List.length_append, List.length_take, List.length_drop] at *
      omega
    · cases h
theorem chk_tail {p : Option S66} {h : S66} {l : List S66} (hc : chk p (h :: l) = true) : chk (some h) l = true := ((chk_cons _ _ _).1 hc).2.2.2
theorem chk_head {h : S66} {l : List S66} (hc : chk (some h) l = true) (h0 : 0 ≤ h.f0) : ∀ q, l.head? = some q → h.f0 + (h.f1.length : Int) ≤ q.f0 := by
  cases l with
  | nil => intro q hq; cases hq
  | cons x l =>
    intro q hq
    obtain rfl := Option.some.inj hq
    have := ((chk_cons _ _ _).1 hc).2.2.1 h rfl
    omega
/-- One hunk ahead of hunks that are done already. -/
theorem appl_ahead {a : L} {h : S66} {t : List S66} {p : Option S66} (hc : chk p (h :: t) = true) : appl 0 a (h :: t) =
    if h.f0 ≤ (a.length : Int) ∧ (a.drop h.f0.toNat).take h.f1.length = h.f1 then (appl 0 a t).map (fun r => r.take h.f0.toNat ++ h.f2 ++ r.drop (h.f0.toNat + h.f1.length)) else none := by
  obtain ⟨h0, _, _, h4⟩ := (chk_cons _ _ _).1 hc
  obtain ⟨f, hf0⟩ : ∃ f : Nat, h.f0 = (f : Int) := ⟨h.f0.toNat, by omega⟩
  have hh := chk_head h4 h0
  rw [hf0] at hh ⊢
  simp only [Int.toNat_natCast]
  by_cases c : f ≤ a.length ∧ (a.drop f).take h.f1.length = h.f1
  · have hl : f + h.f1.length ≤ a.length := by
      have h5 : ((a.drop f).take h.f1.length).length = h.f1.length := by rw [c.2]
      rw [List.length_take, List.length_drop] at h5
      omega
    rw [if_pos ⟨by omega, c.2⟩]
    simp only [appl]
    rw [hf0]
    simp only [Int.toNat_natCast, Nat.sub_zero]
    rw [if_pos ⟨by omega, by omega, c.2⟩, appl_shift t 0 (f + h.f1.length) a (by omega) (by omega) (fun q hq => by have := hh q hq; omega), Option.map_map, Nat.sub_zero]
    congr 1
    funext r
    simp only [Function.comp]
    have hlt : (a.take (f + h.f1.length)).length = f + h.f1.length := by rw [List.length_take]; omega
    rw [List.take_append_of_le_length (by omega), List.take_take, Nat.min_eq_left (by omega), List.drop_append_of_le_length (by omega), List.drop_of_length_le (by omega), List.nil_append]
  · rw [if_neg (fun z => c ⟨by have := z.1; omega, z.2⟩)]
    simp only [appl]
    rw [hf0]
    simp only [Int.toNat_natCast, Nat.sub_zero]
    rw [if_neg (fun z => c ⟨by have := z.2.1; omega, z.2.2⟩)]
theorem chk_drop : ∀ (i : Nat) (l : List S66) (p : Option S66), chk p l = true → ∃ q, chk q (l.drop i) = true
  | 0, l, p, h => ⟨p, h⟩
  | i + 1, [], p, h => ⟨p, by simpa using h⟩
  | i + 1, x :: l, p, h => by simpa using chk_drop i l _ (chk_tail h)
theorem appl_none_up (a : L) (l : List S66) (hc : chk none l = true) : ∀ i, appl 0 a (l.drop i) = none → appl 0 a l = none
  | 0, h => h
  | i + 1, h => by
    by_cases hi : i < l.length
    · refine appl_none_up a l hc i ?_
      obtain ⟨q, hq⟩ := chk_drop i l none hc
      rw [List.drop_eq_getElem_cons hi] at hq ⊢
      rw [appl_ahead hq, h]
      simp
    · rw [List.drop_of_length_le (by omega)] at h
      simp [appl] at h
def told (r : Option L) : L × Bool := match r with
  | some x => (x, true)
  | none => ([], false)
theorem sum_drop (l : List S66) (i : Nat) : sumN (l.drop i) ≤ sumN l := by
  have := sumN_app (l.take i) (l.drop i)
  rw [List.take_append_drop] at this
  omega
theorem apply_good (k : Nat) (a : L) (l : List S66) (out : L) (i : Nat) (h : S66) (f : Nat) (hi : i < l.length) (hi2 : i ≤ 1000000) (hrd : rd_T66 l (i : Int) = h) (c1 : f ≤ a.length) (hf0 : h.f0 = (f : Int)) (hs : f + h.f1.length ≤ out.length)
    (ho : out.length ≤ 3000000) (hn : h.f2.length ≤ 1000000) : rafterref04_Apply.l0 (k + 1) a l out (i : Int) = (rafterref03_At.f k a h.f1 (f : Int)).bind fun t417 => if t417 = true then rafterref04_Apply.l0 k a l (out.take f ++ h.f2 ++ out.drop (f + h.f1.length)) ((i : Int) - 1) else some (([] : L), false) := by
  have ew : wrap64 ((f : Int) + (h.f1.length : Int)) = ((f + h.f1.length : Nat) : Int) := by rw [wrap64_in _ (by omega)]; omega
  have ew2 : wrap64 ((i : Int) - 1) = (i : Int) - 1 := wrap64_in _ (by omega)
  have z1 : (i : Int) ≥ 0 := by omega
  have z2 : (0 : Int) ≤ (i : Int) := by omega
  have z3 : (i : Int) < (l.length : Int) := by omega
  have z4 : ¬ (f : Int) > (a.length : Int) := by omega
  have lt : (out.take f).length = f := by rw [List.length_take]; omega
  have ld : (out.drop (f + h.f1.length)).length = out.length - (f + h.f1.length) := by rw [List.length_drop]
  have hA : (0 : Int) ≤ (f : Int) := by omega
  have hB : (f : Int) ≤ (out.length : Int) := by omega
  have hC : (out.take f).length < 8796093022208 := by rw [lt]; omega
  have hD : (out.take f).length + h.f2.length < 8796093022208 := by rw [lt]; omega
  have hE : (0 : Int) ≤ ((f + h.f1.length : Nat) : Int) := by omega
  have hF : ((f + h.f1.length : Nat) : Int) ≤ (out.length : Int) := by omega
  have hG : (out.take f ++ h.f2).length + (out.drop (f + h.f1.length)).length < 8796093022208 := by rw [List.length_append, lt, ld]; omega
  clear lt ld
  simp only [rafterref04_Apply.l0]
  rw [if_pos z1, if_pos z2, if_pos z3, hrd, hf0, if_neg z4]
  simp only [Option.bind_some, Int.toNat_natCast, List.nil_append, List.length_nil, Nat.zero_add, ew, ew2, if_pos hA, if_pos hB, if_pos hC, if_pos hD, if_pos hE, if_pos hF, if_pos hG]
theorem refapply_ev (a : L) (l : List S66) (ha : a.length ≤ 1000000) (hm : Mild l) (hs : sumN l ≤ 1000000) (hc : chk none l = true) : Ev (fun k => rafterref04_Apply.f k a l) (told (appl 0 a l)) := by
  obtain ⟨hl, hb⟩ := hm
  have key : ∀ (i : Nat) (out : L), i ≤ l.length → appl 0 a (l.drop i) = some out → Ev (fun k => rafterref04_Apply.l0 k a l out ((i : Int) - 1)) (told (appl 0 a l)) := by
    intro i
    induction i with
    | zero =>
      intro out _ ho
      rw [List.drop_zero] at ho
      rw [ho]
      refine Ev.step (f := fun _ => some (out, true)) (fun k => ?_) (Ev.now _)
      simp only [rafterref04_Apply.l0]
      rw [if_neg (by omega)]
    | succ i ih =>
      intro out hi ho
      have h1 : i < l.length := by omega
      have hbi := hb l[i] (List.getElem_mem h1)
      obtain ⟨q, hq⟩ := chk_drop i l none hc
      rw [List.drop_eq_getElem_cons h1] at hq
      have hah := appl_ahead (a := a) hq
      have hup := appl_none_up a l hc i
      rw [List.drop_eq_getElem_cons h1] at hup
      have hdr : l.drop i = l[i] :: l.drop (i + 1) := List.drop_eq_getElem_cons h1
      have hlen := appl_len _ _ _ _ ho
      have hsd := sum_drop l (i + 1)
      obtain ⟨h0, _, _, h4⟩ := (chk_cons _ _ _).1 hq
      have hh := chk_head h4 h0
      have hbN := (mem_sum l l[i] (List.getElem_mem h1)).2
      have ih' := fun o ho' => ih o (by omega) ho'
      rw [hdr] at ih'
      have hrd := rdT l i h1
      generalize l[i] = h at *
      have ei : ((i + 1 : Nat) : Int) - 1 = (i : Int) := by omega
      rw [ei]
      by_cases c1 : h.f0 > (a.length : Int)
      · rw [hup (by rw [hah, if_neg (fun z => by omega)])]
        refine Ev.step (f := fun _ => some (([] : L), false)) (fun k => ?_) (Ev.now _)
        simp only [rafterref04_Apply.l0]
        rw [if_pos (by omega), if_pos (by omega), if_pos (by omega), hrd, if_pos c1]
      obtain ⟨f, hf0⟩ : ∃ f : Nat, h.f0 = (f : Int) := ⟨h.f0.toNat, by omega⟩
      have at1 := at_ev a h.f1 f (by omega) (by omega) (by omega)
      by_cases c2 : (a.drop f).take h.f1.length = h.f1
      · have hfl : f + h.f1.length ≤ a.length := by
          have h5 : ((a.drop f).take h.f1.length).length = h.f1.length := by rw [c2]
          rw [List.length_take, List.length_drop] at h5
          omega
        have hsh := appl_shift (l.drop (i + 1)) 0 (f + h.f1.length) a (by omega) (by omega) (fun q hq' => by have := hh q hq'; omega)
        rw [ho] at hsh
        obtain ⟨r', _, hr'⟩ := Option.map_eq_some_iff.1 hsh.symm
        have hol : f + h.f1.length ≤ out.length := by rw [← hr', List.length_append, List.length_take]; omega
        rw [decide_eq_true c2] at at1
        have run := fun k => apply_good k a l out i h f h1 (by omega) hrd (by omega) hf0 hol (by omega) (by omega)
        refine Ev.step run (Ev.bind at1 (Ev.congr (fun k => by rw [if_pos rfl]) (ih' _ ?_)))
        · rw [hah, if_pos ⟨by omega, by rw [hf0, Int.toNat_natCast]; exact c2⟩, ho, hf0]
          simp
      · rw [hup (by rw [hah, if_neg (fun z => c2 (by have := z.2; rwa [hf0, Int.toNat_natCast] at this))])]
        rw [decide_eq_false c2] at at1
        have run : ∀ k, rafterref04_Apply.l0 (k + 1) a l out (i : Int) = (rafterref03_At.f k a h.f1 (f : Int)).bind fun t417 => if t417 = true then ((some (([] : List ByteArray) : List ByteArray)).bind fun y418 => (if 0 ≤ ((f : Nat) : Int) then (if ((f : Nat) : Int) ≤ (out.length : Int) then ((some (out.take (((f : Nat) : Int)).toNat : List ByteArray)).bind fun y421 => (if y418.length + y421.length < 8796093022208 then ((some (y418 ++ y421 : List ByteArray)).bind fun y425 => (if y425.length + (h.f2).length < 8796093022208 then ((some (y425 ++ (h.f2) : List ByteArray)).bind fun y428 => (if 0 ≤ (wrap64 (((f : Nat) : Int) + ((h.f1).length : Int))) then (if (wrap64 (((f : Nat) : Int) + ((h.f1).length : Int))) ≤ (out.length : Int) then ((some (out.drop ((wrap64 (((f : Nat) : Int) + ((h.f1).length : Int))) : Int).toNat : List ByteArray)).bind fun y431 => (if y428.length + y431.length < 8796093022208 then (rafterref04_Apply.l0 k a l (y428 ++ y431) (wrap64 ((i : Int) - 1))) else (none))) else (none)) else (none))) else (none))) else (none))) else (none)) else (none))) else some (([] : L), false) := by
          intro k
          simp only [rafterref04_Apply.l0]
          rw [if_pos (by omega), if_pos (by omega), if_pos (by omega), hrd, if_neg c1, hf0]
        exact Ev.step run (Ev.bind at1 (Ev.congr (f := fun _ => some (([] : L), false)) (fun k => by rw [if_neg (by simp)]) (Ev.now _)))
  have e0 : wrap64 ((l.length : Int) - 1) = (l.length : Int) - 1 := wrap64_in _ (by omega)
  refine Ev.congr (fun k => ?_) (key l.length a (Nat.le_refl _) (by rw [List.drop_length]; simp only [appl]))
  unfold rafterref04_Apply.f
  simp only [Option.bind_some, List.length_nil, List.nil_append]
  rw [if_pos (by omega), e0]
/-! ### The law -/
theorem sum_small : ∀ (l : List S66), (∀ h ∈ l, h.f1.length ≤ 60 ∧ h.f2.length ≤ 60) → sumO l ≤ 60 * l.length ∧ sumN l ≤ 60 * l.length
  | [], _ => ⟨Nat.le_refl _, Nat.le_refl _⟩
  | x :: l, h => by
    have h1 := sum_small l (fun y hy => h y (List.mem_cons_of_mem _ hy))
    have h2 := h x List.mem_cons_self
    rw [sumO_cons, sumN_cons, List.length_cons]
    omega
theorem diffApplies_main (a : L) (l m : List S66) (ha : a.length ≤ 60) (hl : l.length ≤ 30) (hb : ∀ h ∈ l, h.f1.length ≤ 60 ∧ h.f2.length ≤ 60) (hw : ∀ h ∈ l, h.f0 ≤ 9223372036854775807)
    (la : Ev (fun k => rafterlaw03_Light.f k a) true) (ll : Ev (fun k => rafterlaw04_Light.f k l) true) (lm : Ev (fun k => rafterlaw04_Light.f k m) true) : Ev (fun k => rafterlaw04_DiffApplies.f k a l m) true := by
  have hm : Mild l := ⟨by omega, fun h hh => ⟨hw h hh, by have := hb h hh; omega, by have := hb h hh; omega⟩⟩
  have hb2 : ∀ h ∈ l, h.f1.length ≤ 1000000 ∧ h.f2.length ≤ 1000000 := fun h hh => (hm.2 h hh).2
  have hsum := sum_small l hb
  have r1 := may_ev l hm
  have r2 := check_ev l hm
  have r3 := dsame_ev l m (by omega) hb2
  have r4 := refsame2_ev l m (by omega) hb2
  refine Ev.congr (fun k => by unfold rafterlaw04_DiffApplies.f; rfl) (Ev.bind la ?_)
  refine Ev.congr (fun k => by rw [if_pos rfl]) (Ev.bind ll ?_)
  refine Ev.congr (fun k => by rw [if_pos rfl]) (Ev.bind lm ?_)
  by_cases hc : chk none l = true
  · rw [if_pos hc] at r2
    rw [hc] at r1
    cases hap : appl 0 a l with
    | none =>
      have x1 := apply_ev a l (by omega) hm (by omega) hc
      have x2 := refapply_ev a l (by omega) hm (by omega) hc
      rw [hap] at x1 x2
      refine Ev.congr (fun k => by rw [if_pos rfl]) (Ev.bind x1 (Ev.bind r1 (Ev.bind r2 ?_)))
      refine Ev.congr (fun k => by rw [if_neg (by decide)]) (Ev.bind r3 (Ev.bind r4 ?_))
      refine Ev.congr (fun k => by rw [if_neg (by simp), if_pos rfl]) (Ev.bind x2 ?_)
      refine Ev.congr (fun k => by rw [if_neg (by simp [told])]) (Ev.bind awake_ev ?_)
      exact Ev.congr (f := fun _ => some true) (fun k => by rw [if_pos rfl]; rfl) (Ev.now _)
    | some b =>
      have hbl := appl_len l 0 a b hap
      obtain ⟨t1, t2, t3⟩ := there_back l a b (by omega) (by omega) hap hc (by omega)
      have x2 := refapply_ev a l (by omega) hm (by omega) hc
      rw [hap] at x2
      have hap2 := appl_inv l 0 0 0 a b rfl hap
      have hck2 := chk_inv0 l hc
      have hsi := sum_inv l 0
      obtain ⟨hm2, h92⟩ := mild_of (inv 0 l) b a hap2 hck2 (by omega) (by rw [hsi.1, hsi.2]; omega)
      have t4 := invert_ev (inv 0 l) hm2 h92 (by rw [hsi.1, hsi.2]; omega) hck2
      have hii : inv 0 (inv 0 l) = l := inv_inv l 0
      rw [hii] at t4
      have s1 := same_ev b b (by omega)
      have s2 := same_ev a a (by omega)
      rw [decide_eq_true rfl] at s1 s2
      have s3 := refsame_ev l (by omega) hb2
      refine Ev.congr (fun k => by rw [if_pos rfl]) (Ev.bind t1 (Ev.bind r1 (Ev.bind r2 ?_)))
      refine Ev.congr (fun k => by rw [if_neg (by decide)]) (Ev.bind r3 (Ev.bind r4 ?_))
      refine Ev.congr (fun k => by rw [if_neg (by simp), if_pos rfl]) (Ev.bind x2 ?_)
      refine Ev.congr (fun k => by rw [if_pos (by rfl)]) (Ev.bind t2 (Ev.bind t3 (Ev.bind awake_ev ?_)))
      refine Ev.congr (fun k => by rw [if_pos rfl, if_pos rfl]; rfl) (Ev.bind s1 ?_)
      refine Ev.congr (fun k => by rw [if_pos rfl, if_pos rfl]) (Ev.bind s2 ?_)
      exact Ev.congr (fun k => by rw [if_pos rfl]) (Ev.bind t2 (Ev.bind t4 (Ev.bind s3 (Ev.now _))))
  · rw [if_neg hc] at r2
    rw [Bool.eq_false_iff.2 hc] at r1
    have x1 := apply_bad a l hm hc
    have x3 := invert_bad l hm hc
    refine Ev.congr (fun k => by rw [if_pos rfl]) (Ev.bind x1 (Ev.bind r1 (Ev.bind r2 ?_)))
    refine Ev.congr (fun k => by rw [if_neg (by decide)]) (Ev.bind r3 (Ev.bind r4 ?_))
    refine Ev.congr (fun k => by rw [if_neg (by simp), if_neg (by decide)]) (Ev.bind awake_ev ?_)
    refine Ev.congr (fun k => by rw [if_pos rfl, if_pos (by rfl), if_pos rfl]) (Ev.bind x3 ?_)
    exact Ev.now _
theorem DiffApplies : rafterlaw04_DiffApplies.Pure := by
  intro x0 x1 x2 h0 _ h1 q1 h2 q2
  refine Ev.rounds ?_
  obtain ⟨b0, e0, p0⟩ := light_ev x0 h0
  obtain ⟨b1, e1, p1⟩ := hlight_ev x1 h1 (fun h hh => ⟨(q1 h hh).2.1.1, (q1 h hh).2.2.1⟩)
  obtain ⟨b2, e2, p2⟩ := hlight_ev x2 h2 (fun h hh => ⟨(q2 h hh).2.1.1, (q2 h hh).2.2.1⟩)
  have hbad : Ev (fun k => (rafterlaw04_awake.f k).bind fun t => some t) true := Ev.bind awake_ev (Ev.now _)
  cases b0 with
  | false => exact Ev.congr (fun k => by unfold rafterlaw04_DiffApplies.f; rfl) (Ev.bind e0 (Ev.congr (fun k => by rw [if_neg (by simp)]) hbad))
  | true =>
    cases b1 with
    | false => exact Ev.congr (fun k => by unfold rafterlaw04_DiffApplies.f; rfl) (Ev.bind e0 (Ev.congr (fun k => by rw [if_pos rfl]) (Ev.bind e1 (Ev.congr (fun k => by rw [if_neg (by simp)]) hbad))))
    | true =>
      cases b2 with
      | false => exact Ev.congr (fun k => by unfold rafterlaw04_DiffApplies.f; rfl) (Ev.bind e0 (Ev.congr (fun k => by rw [if_pos rfl]) (Ev.bind e1 (Ev.congr (fun k => by rw [if_pos rfl]) (Ev.bind e2 (Ev.congr (fun k => by rw [if_neg (by simp)]) hbad))))))
      | true =>
        refine diffApplies_main x0 x1 x2 (p0 rfl) (p1 rfl).1 (p1 rfl).2 (fun h hh => ?_) e0 e1 e2
        have hz := (q1 h hh).1
        have e1 : IntKind.i64.max = 9223372036854775807 := by decide
        simp [Lit.wf] at hz
        omega
end Go.Proofs.Ytnegeacpfkcecaa.Pure
