/- Proved: what diff.Check, Apply, Invert, Size, lines.Same and their kin come to, with enough rounds. Conditions stand in each lemma. -/
import Derived.Test.YtnegeacpfkcecaaXDiffx0
import Derived.Test.YtnegeacpfkcecaaXDiffx1
import Derived.Test.YtnegeacpfkcecaaXDiffx5
import Derived.Test.YtnegeacpfkcecaaXDiffx6
import Derived.Test.YtnegeacpfkcecaaXDiffx7
import Derived.Test.YtnegeacpfkcecaaPureDiffTable
namespace Go.Proofs.Ytnegeacpfkcecaa.DiffOps
open Go.RowKit Go.Proofs.Ytnegeacpfkcecaa.XDiff Go.Proofs.YtnegeacpfkcecaaW.PrintWords Go.Proofs.YtnegeacpfkcecaaW.PrintLast Go.Proofs.YtnegeacpfkcecaaW.PrintMore
open Go.Proofs.Ytnegeacpfkcecaa.DiffSpec Go.Proofs.Ytnegeacpfkcecaa.DiffTable

theorem wrap_nat (i : Nat) (h : i < 9223372036854775807) : wrap64 ((i : Int) + 1) = ((i + 1 : Nat) : Int) := by
  unfold wrap64
  omega
theorem wrap64_in (z : Int) (h : -9223372036854775808 ≤ z ∧ z ≤ 9223372036854775807) : wrap64 z = z := by unfold wrap64; omega
theorem rdT (l : List S66) (i : Nat) (h : i < l.length) : rd_T66 l (i : Int) = l[i] := by
  unfold rd_T66
  rw [Int.toNat_natCast, List.getD_eq_getElem?_getD, List.getElem?_eq_getElem h]
  rfl
/-! ### rafterref01.Same, lines.Same -/
theorem same_ev (a b : L) (h : a.length ≤ 9223372036854775807) : Ev (fun k => rafterref01_Same.f k a b) (decide (a = b)) := by
  by_cases hl : a.length = b.length
  · have key : ∀ d i : Nat, a.length - i = d → i ≤ a.length → a.take i = b.take i → Ev (fun k => rafterref01_Same.l0 k a b (i : Int)) (decide (a = b)) := by
      intro d
      induction d with
      | zero =>
        intro i hd hi ht
        have hi' : i = a.length := by omega
        subst hi'
        have hab : a = b := by rw [List.take_length, hl, List.take_length] at ht; exact ht
        refine Ev.step (f := fun _ => some (decide (a = b))) (fun k => ?_) (Ev.now _)
        simp only [rafterref01_Same.l0]
        rw [if_neg (by omega)]
        simp [hab]
      | succ d ih =>
        intro i hd hi ht
        have h1 : i < a.length := by omega
        have h2 : i < b.length := by omega
        by_cases he : a[i] = b[i]
        · refine Ev.step (f := fun k => rafterref01_Same.l0 k a b ((i + 1 : Nat) : Int)) (fun k => ?_) (ih (i + 1) (by omega) (by omega) (by rw [List.take_succ_eq_append_getElem h1, List.take_succ_eq_append_getElem h2, ht, he]))
          simp only [rafterref01_Same.l0]
          rw [if_pos (by omega), if_pos (by omega), if_pos (by omega), rd_nat a i h1, rd_nat b i h2, if_pos (by rw [he]), wrap_nat i (by omega)]
        · have hab : ¬ a = b := fun e => he (by subst e; rfl)
          refine Ev.step (f := fun _ => some (decide (a = b))) (fun k => ?_) (Ev.now _)
          simp only [rafterref01_Same.l0]
          rw [if_pos (by omega), if_pos (by omega), if_pos (by omega), rd_nat a i h1, rd_nat b i h2, if_neg (by rw [toList_inj]; exact he)]
          simp [hab]
    refine Ev.congr (f := fun k => rafterref01_Same.l0 k a b ((0 : Nat) : Int)) (fun k => ?_) (key _ 0 rfl (by omega) rfl)
    unfold rafterref01_Same.f
    rw [if_pos (by omega)]
    rfl
  · have hab : ¬ a = b := fun e => hl (by rw [e])
    refine Ev.congr (f := fun _ => some (decide (a = b))) (fun k => ?_) (Ev.now _)
    unfold rafterref01_Same.f
    rw [if_neg (by omega)]
    simp [hab]
theorem lsame_ev (a b : L) (h : a.length ≤ 9223372036854775807) : Ev (fun k => lines_Same.f k a b) (decide (a = b)) := by
  have he : Ev (fun k => slices_Equal_string_string.f k a b) (decide (a = b)) := by
    by_cases hl : a.length = b.length
    · have key : ∀ d i : Nat, a.length - i = d → i ≤ a.length → a.take i = b.take i → Ev (fun k => slices_Equal_string_string.l0 k a b (a.length : Int) (i : Int)) (decide (a = b)) := by
        intro d
        induction d with
        | zero =>
          intro i hd hi ht
          have hi' : i = a.length := by omega
          subst hi'
          have hab : a = b := by rw [List.take_length, hl, List.take_length] at ht; exact ht
          refine Ev.step (f := fun _ => some (decide (a = b))) (fun k => ?_) (Ev.now _)
          simp only [slices_Equal_string_string.l0]
          rw [if_neg (by omega)]
          simp [hab]
        | succ d ih =>
          intro i hd hi ht
          have h1 : i < a.length := by omega
          have h2 : i < b.length := by omega
          by_cases he : a[i] = b[i]
          · refine Ev.step (f := fun k => slices_Equal_string_string.l0 k a b (a.length : Int) ((i + 1 : Nat) : Int)) (fun k => ?_) (ih (i + 1) (by omega) (by omega) (by rw [List.take_succ_eq_append_getElem h1, List.take_succ_eq_append_getElem h2, ht, he]))
            simp only [slices_Equal_string_string.l0]
            rw [if_pos (by omega), if_pos (by omega), if_pos (by omega), if_pos (by omega), rd_nat a i h1, rd_nat b i h2, if_pos (by rw [he]), wrap_nat i (by omega)]
          · have hab : ¬ a = b := fun e => he (by subst e; rfl)
            refine Ev.step (f := fun _ => some (decide (a = b))) (fun k => ?_) (Ev.now _)
            simp only [slices_Equal_string_string.l0]
            rw [if_pos (by omega), if_pos (by omega), if_pos (by omega), if_pos (by omega), rd_nat a i h1, rd_nat b i h2, if_neg (by rw [toList_inj]; exact he)]
            simp [hab]
      refine Ev.congr (f := fun k => slices_Equal_string_string.l0 k a b (a.length : Int) ((0 : Nat) : Int)) (fun k => ?_) (key _ 0 rfl (by omega) rfl)
      unfold slices_Equal_string_string.f
      rw [if_pos (by omega)]
      rfl
    · have hab : ¬ a = b := fun e => hl (by rw [e])
      refine Ev.congr (f := fun _ => some (decide (a = b))) (fun k => ?_) (Ev.now _)
      unfold slices_Equal_string_string.f
      rw [if_neg (by omega)]
      simp [hab]
  refine Ev.congr (f := fun k => (slices_Equal_string_string.f k a b).bind fun t => some t) (fun k => rfl) (Ev.bind he (Ev.now _))
/-! ### rafterlaw03.Light -/
theorem light_ev (a : L) (h : a.length ≤ 9223372036854775807) : ∃ b : Bool, Ev (fun k => rafterlaw03_Light.f k a) b ∧ (b = true → a.length ≤ 60) := by
  have key : ∀ d i : Nat, a.length - i = d → i ≤ a.length → ∃ b : Bool, Ev (fun k => rafterlaw03_Light.l0 k a (i : Int)) b ∧ (b = true → a.length ≤ 60) := by
    intro d
    induction d with
    | zero =>
      intro i hd hi
      refine ⟨decide ((a.length : Int) ≤ 60), Ev.step (f := fun _ => some (decide ((a.length : Int) ≤ 60))) (fun k => ?_) (Ev.now _), fun hb => by have := of_decide_eq_true hb; omega⟩
      simp only [rafterlaw03_Light.l0]
      rw [if_neg (by omega)]
    | succ d ih =>
      intro i hd hi
      have h1 : i < a.length := by omega
      by_cases hs : (a[i].size : Int) > 300
      · refine ⟨false, Ev.step (f := fun _ => some false) (fun k => ?_) (Ev.now _), fun hb => by cases hb⟩
        simp only [rafterlaw03_Light.l0]
        rw [if_pos (by omega), if_pos (by omega), rd_nat a i h1, if_pos hs]
      · obtain ⟨b, hb, hl⟩ := ih (i + 1) (by omega) (by omega)
        refine ⟨b, Ev.step (f := fun k => rafterlaw03_Light.l0 k a ((i + 1 : Nat) : Int)) (fun k => ?_) hb, hl⟩
        simp only [rafterlaw03_Light.l0]
        rw [if_pos (by omega), if_pos (by omega), rd_nat a i h1, if_neg hs, wrap_nat i (by omega)]
  exact key _ 0 rfl (by omega)
/-! ### diff.Check -/
/-- Hunks whose numbers stay far from the edges. -/
def Mild (l : List S66) : Prop := l.length ≤ 1000000 ∧ ∀ h ∈ l, h.f0 ≤ 9223372036854775807 ∧ h.f1.length ≤ 1000000 ∧ h.f2.length ≤ 1000000
def prev (l : List S66) (i : Nat) : Option S66 := if i = 0 then none else l[i - 1]?
theorem check_ev (l : List S66) (hm : Mild l) : Ev (fun k => diff_Check.f k l) (if chk none l = true then 0 else 6) := by
  obtain ⟨hl, hb⟩ := hm
  have key : ∀ d i : Nat, l.length - i = d → i ≤ l.length → Ev (fun k => diff_Check.l0 k l l (l.length : Int) (i : Int)) (if chk (prev l i) (l.drop i) = true then 0 else 6) := by
    intro d
    induction d with
    | zero =>
      intro i hd hi
      have e : l.drop i = [] := List.drop_of_length_le (by omega)
      rw [e]
      refine Ev.step (f := fun _ => some 0) (fun k => ?_) (Ev.now _)
      simp only [diff_Check.l0]
      rw [if_neg (by omega)]
    | succ d ih =>
      intro i hd hi
      have h1 : i < l.length := by omega
      have hbi := hb l[i] (List.getElem_mem h1)
      have ihn := ih (i + 1) (by omega) (by omega)
      rw [List.drop_eq_getElem_cons h1]
      have hprev : prev l (i + 1) = some l[i] := by unfold prev; rw [if_neg (by omega), Nat.add_sub_cancel, List.getElem?_eq_getElem h1]
      rw [hprev] at ihn
      have bad : ∀ (c : Bool), c = false → Ev (fun k => diff_Check.j1 k l l (l.length : Int) (i : Int) true) (if c = true then 0 else 6) := by
        intro c hc
        subst hc
        refine Ev.step (f := fun _ => some 6) (fun k => ?_) (Ev.now _)
        simp only [diff_Check.j1]
        rfl
      have good : ∀ (c : Bool), c = chk (some l[i]) (l.drop (i + 1)) → Ev (fun k => diff_Check.j1 k l l (l.length : Int) (i : Int) false) (if c = true then 0 else 6) := by
        intro c hc
        subst hc
        refine Ev.step (f := fun k => diff_Check.l0 k l l (l.length : Int) ((i + 1 : Nat) : Int)) (fun k => ?_) ihn
        simp only [diff_Check.j1]
        rw [if_neg (by simp), wrap_nat i (by omega)]
      by_cases c1 : l[i].f0 < 0
      · refine Ev.step (f := fun k => diff_Check.j1 k l l (l.length : Int) (i : Int) true) (fun k => ?_) (bad _ ?_)
        · simp only [diff_Check.l0]
          rw [if_pos (by omega), if_pos (by omega), if_pos (by omega), rdT l i h1, if_pos c1]
        · have e : decide (0 ≤ l[i].f0) = false := decide_eq_false (by omega)
          simp only [chk, e, Bool.false_and]
      by_cases c2 : l[i].f1.length + l[i].f2.length = 0
      · refine Ev.step (f := fun k => diff_Check.j1 k l l (l.length : Int) (i : Int) true) (fun k => ?_) (bad _ ?_)
        · simp only [diff_Check.l0]
          rw [if_pos (by omega), if_pos (by omega), if_pos (by omega), rdT l i h1, if_neg c1, wrap64_in _ (by omega), if_pos (by omega)]
        · have e : decide (0 < l[i].f1.length + l[i].f2.length) = false := decide_eq_false (by omega)
          simp only [chk, e, Bool.and_false, Bool.false_and]
      by_cases hi0 : i = 0
      · subst hi0
        refine Ev.step (f := fun k => diff_Check.j1 k l l (l.length : Int) ((0 : Nat) : Int) false) (fun k => ?_) (good _ ?_)
        · simp only [diff_Check.l0]
          rw [if_pos (by omega), if_pos (by omega), if_pos (by omega), rdT l 0 h1, if_neg c1, wrap64_in _ (by omega), if_neg (by omega), if_neg (by omega)]
        · have e1 : decide ((0 : Int) ≤ l[0].f0) = true := decide_eq_true (by omega)
          have e2 : decide (0 < l[0].f1.length + l[0].f2.length) = true := decide_eq_true (by omega)
          simp only [chk, prev, if_pos, e1, e2, Bool.and_true, Bool.true_and]
      · have hq : i - 1 < l.length := by omega
        have hbq := hb l[i - 1] (List.getElem_mem hq)
        have e0 : wrap64 ((i : Int) - 1) = ((i - 1 : Nat) : Int) := by rw [wrap64_in _ (by omega)]; omega
        have e1 : decide (0 ≤ l[i].f0) = true := decide_eq_true (by omega)
        have e2 : decide (0 < l[i].f1.length + l[i].f2.length) = true := decide_eq_true (by omega)
        have e3 : prev l i = some l[i - 1] := by unfold prev; rw [if_neg hi0, List.getElem?_eq_getElem hq]
        have run : ∀ k, diff_Check.l0 (k + 1) l l (l.length : Int) (i : Int) = diff_Check.j1 k l l (l.length : Int) (i : Int) (decide (l[i].f0 - (l[i - 1].f1.length : Int) ≤ l[i - 1].f0)) := by
          intro k
          simp only [diff_Check.l0]
          rw [if_pos (by omega), if_pos (by omega), if_pos (by omega), rdT l i h1, if_neg c1, wrap64_in _ (by omega), if_neg (by omega), if_pos (by omega), e0, if_pos (by omega), if_pos (by omega), rdT l (i - 1) hq, wrap64_in _ (by omega)]
        by_cases c3 : l[i].f0 - (l[i - 1].f1.length : Int) ≤ l[i - 1].f0
        · refine Ev.step run ?_
          rw [decide_eq_true c3]
          refine bad _ ?_
          have e4 : decide (l[i].f0 - (l[i - 1].f1.length : Int) > l[i - 1].f0) = false := decide_eq_false (by omega)
          simp only [chk, e3, e4, Bool.and_false, Bool.false_and]
        · refine Ev.step run ?_
          rw [decide_eq_false c3]
          refine good _ ?_
          have e4 : decide (l[i].f0 - (l[i - 1].f1.length : Int) > l[i - 1].f0) = true := decide_eq_true (by omega)
          simp only [chk, e3, e4, e1, e2, Bool.and_true, Bool.true_and]
  exact key _ 0 rfl (by omega)
/-! ### diff.Size -/
theorem size_ev (l : List S66) (hl : l.length ≤ 1000000) (ho : sumO l ≤ 1000000000) (hn : sumN l ≤ 1000000000) : Ev (fun k => diff_Size.f k l) (((sumO l : Nat) : Int), ((sumN l : Nat) : Int)) := by
  have key : ∀ d i x y : Nat, l.length - i = d → i ≤ l.length → x + sumO (l.drop i) = sumO l → y + sumN (l.drop i) = sumN l → Ev (fun k => diff_Size.l0 k (x : Int) (y : Int) l (l.length : Int) (i : Int)) (((sumO l : Nat) : Int), ((sumN l : Nat) : Int)) := by
    intro d
    induction d with
    | zero =>
      intro i x y hd hi hx hy
      have e : l.drop i = [] := List.drop_of_length_le (by omega)
      rw [e] at hx hy
      have hx' : x = sumO l := hx
      have hy' : y = sumN l := hy
      refine Ev.step (f := fun _ => some (((sumO l : Nat) : Int), ((sumN l : Nat) : Int))) (fun k => ?_) (Ev.now _)
      simp only [diff_Size.l0]
      rw [if_neg (by omega), hx', hy']
    | succ d ih =>
      intro i x y hd hi hx hy
      have h1 : i < l.length := by omega
      rw [List.drop_eq_getElem_cons h1, sumO_cons] at hx
      rw [List.drop_eq_getElem_cons h1, sumN_cons] at hy
      refine Ev.step (f := fun k => diff_Size.l0 k ((x + l[i].f1.length : Nat) : Int) ((y + l[i].f2.length : Nat) : Int) l (l.length : Int) ((i + 1 : Nat) : Int)) (fun k => ?_) (ih (i + 1) (x + l[i].f1.length) (y + l[i].f2.length) (by omega) (by omega) (by omega) (by omega))
      simp only [diff_Size.l0]
      rw [if_pos (by omega), if_pos (by omega), if_pos (by omega), rdT l i h1, wrap_nat i (by omega), wrap64_in _ (by omega), wrap64_in _ (by omega)]
      simp only [Int.natCast_add]
  exact key _ 0 0 0 rfl (by omega) (by simp) (by simp)
/-! ### diff.Apply -/
theorem appl_none {s : Nat} {a : L} {h : S66} {l : List S66} (hn : ¬ ((s : Int) ≤ h.f0 ∧ h.f0.toNat - s ≤ a.length ∧ (a.drop (h.f0.toNat - s)).take h.f1.length = h.f1)) : appl s a (h :: l) = none := by
  simp only [appl]
  rw [if_neg hn]
def answer (out : L) (r : Option L) : L × Int := match r with
  | some x => (out ++ x, 0)
  | none => ([], 13)
theorem apply_ev (a : L) (l : List S66) (ha : a.length ≤ 1000000) (hm : Mild l) (hs : sumO l ≤ 1000000000 ∧ sumN l ≤ 1000000000) (hc : chk none l = true) : Ev (fun k => diff_Apply.f k a l) (answer [] (appl 0 a l)) := by
  obtain ⟨hl, hb⟩ := hm
  have key : ∀ d i at_ : Nat, ∀ out : L, l.length - i = d → i ≤ l.length → at_ ≤ a.length → out.length + sumN (l.drop i) ≤ 1000000000 + at_ →
      chk (prev l i) (l.drop i) = true → (∀ q, prev l i = some q → (at_ : Int) = q.f0 + (q.f1.length : Int)) → (prev l i = none → at_ = 0) →
      Ev (fun k => diff_Apply.l0 k a out (at_ : Int) l (l.length : Int) (i : Int)) (answer out (appl at_ (a.drop at_) (l.drop i))) := by
    intro d
    induction d with
    | zero =>
      intro i at_ out hd hi hat hlen hck hq hq0
      have e : l.drop i = [] := List.drop_of_length_le (by omega)
      rw [e] at hlen ⊢
      refine Ev.step (f := fun _ => some (out ++ a.drop at_, 0)) (fun k => ?_) (Ev.now _)
      simp only [diff_Apply.l0]
      have hdl : (a.drop at_).length ≤ 1000000 := by rw [List.length_drop]; omega
      rw [if_neg (by omega), if_pos (by omega), if_pos (by omega), Int.toNat_natCast, if_pos (by omega)]
    | succ d ih =>
      intro i at_ out hd hi hat hlen hck hq hq0
      have h1 : i < l.length := by omega
      have hbi := hb l[i] (List.getElem_mem h1)
      rw [List.drop_eq_getElem_cons h1, sumN_cons] at hlen
      rw [List.drop_eq_getElem_cons h1] at hck ⊢
      obtain ⟨c1, c2, c3, c4⟩ := (chk_cons _ _ _).1 hck
      have hle : (at_ : Int) ≤ l[i].f0 := by
        rcases hp : prev l i with _ | q
        · have := hq0 hp; omega
        · have h2 := hq q hp
          have h3 := c3 q hp
          omega
      have run : ∀ k, diff_Apply.l0 (k + 1) a out (at_ : Int) l (l.length : Int) (i : Int) = (if l[i].f0 > (a.length : Int) then (diff_Apply.j1 k a out (at_ : Int) l (l.length : Int) (i : Int) true l[i].f0 l[i].f1 l[i].f2) else (if (l[i].f1.length : Int) > wrap64 ((a.length : Int) - l[i].f0) then (diff_Apply.j1 k a out (at_ : Int) l (l.length : Int) (i : Int) true l[i].f0 l[i].f1 l[i].f2) else (if 0 ≤ l[i].f0 then (if l[i].f0 ≤ wrap64 (l[i].f0 + (l[i].f1.length : Int)) then (if wrap64 (l[i].f0 + (l[i].f1.length : Int)) ≤ (a.length : Int) then ((lines_Same.f k ((a.take (wrap64 (l[i].f0 + (l[i].f1.length : Int))).toNat).drop l[i].f0.toNat) l[i].f1).bind fun t162 => (diff_Apply.j1 k a out (at_ : Int) l (l.length : Int) (i : Int) (!t162) l[i].f0 l[i].f1 l[i].f2)) else none) else none) else none))) := by
        intro k
        simp only [diff_Apply.l0]
        rw [if_pos (by omega), if_pos (by omega), if_pos (by omega), rdT l i h1]
      have bad : ∀ (r : Option L), r = none → Ev (fun k => diff_Apply.j1 k a out (at_ : Int) l (l.length : Int) (i : Int) true l[i].f0 l[i].f1 l[i].f2) (answer out r) := by
        intro r hr
        subst hr
        refine Ev.step (f := fun _ => some (([] : L), 13)) (fun k => ?_) (Ev.now _)
        simp only [diff_Apply.j1]
        rfl
      by_cases d1 : l[i].f0 > (a.length : Int)
      · refine Ev.step (f := fun k => diff_Apply.j1 k a out (at_ : Int) l (l.length : Int) (i : Int) true l[i].f0 l[i].f1 l[i].f2) (fun k => ?_) (bad _ (appl_none ?_))
        · rw [run k, if_pos d1]
        · rw [List.length_drop]; omega
      obtain ⟨f, hf⟩ := Int.eq_ofNat_of_zero_le c1
      have hfl : f ≤ a.length := by omega
      have hsub : ((a.drop at_).drop (l[i].f0.toNat - at_)) = a.drop f := by rw [List.drop_drop]; congr 1; omega
      by_cases d2 : (l[i].f1.length : Int) > (a.length : Int) - l[i].f0
      · refine Ev.step (f := fun k => diff_Apply.j1 k a out (at_ : Int) l (l.length : Int) (i : Int) true l[i].f0 l[i].f1 l[i].f2) (fun k => ?_) (bad _ (appl_none ?_))
        · rw [run k, if_neg d1, wrap64_in _ (by omega), if_pos d2]
        · rw [hsub]
          intro h
          have h3 := congrArg List.length h.2.2
          rw [List.length_take, List.length_drop] at h3
          omega
      have ew : wrap64 (l[i].f0 + (l[i].f1.length : Int)) = ((f + l[i].f1.length : Nat) : Int) := by rw [wrap64_in _ (by omega)]; omega
      have hsame := lsame_ev ((a.take (f + l[i].f1.length)).drop f) l[i].f1 (by rw [List.length_drop, List.length_take]; omega)
      have run2 : ∀ k, diff_Apply.l0 (k + 1) a out (at_ : Int) l (l.length : Int) (i : Int) = (lines_Same.f k ((a.take (f + l[i].f1.length)).drop f) l[i].f1).bind fun t162 => (diff_Apply.j1 k a out (at_ : Int) l (l.length : Int) (i : Int) (!t162) l[i].f0 l[i].f1 l[i].f2) := by
        intro k
        rw [run k, if_neg d1, wrap64_in ((a.length : Int) - l[i].f0) (by omega), if_neg d2, if_pos c1, ew, if_pos (by omega), if_pos (by omega), Int.toNat_natCast, hf]
        rfl
      have hdt : (a.take (f + l[i].f1.length)).drop f = (a.drop f).take l[i].f1.length := by rw [List.drop_take, Nat.add_sub_cancel_left]
      by_cases d3 : (a.drop f).take l[i].f1.length = l[i].f1
      · refine Ev.step run2 (Ev.bind hsame ?_)
        rw [hdt, decide_eq_true d3]
        have hap : appl at_ (a.drop at_) (l[i] :: l.drop (i + 1)) = (appl (f + l[i].f1.length) (a.drop (f + l[i].f1.length)) (l.drop (i + 1))).map (fun r => (a.drop at_).take (f - at_) ++ l[i].f2 ++ r) := by
          simp only [appl]
          rw [if_pos ⟨hle, by rw [List.length_drop]; omega, by rw [hsub]; exact d3⟩]
          have e1 : l[i].f0.toNat = f := by omega
          rw [e1, List.drop_drop]
          have e2 : at_ + (f - at_ + l[i].f1.length) = f + l[i].f1.length := by omega
          rw [e2]
        have hprev : prev l (i + 1) = some l[i] := by unfold prev; rw [if_neg (by omega), Nat.add_sub_cancel, List.getElem?_eq_getElem h1]
        have htl : ((a.drop at_).take (f - at_)).length = f - at_ := by rw [List.length_take, List.length_drop]; omega
        have ihn := ih (i + 1) (f + l[i].f1.length) (out ++ (a.drop at_).take (f - at_) ++ l[i].f2) (by omega) (by omega) (by omega) (by rw [List.length_append, List.length_append, htl]; omega) (by rw [hprev]; exact c4) (fun q hq' => by rw [hprev] at hq'; obtain rfl := Option.some.inj hq'; omega) (fun hq' => by rw [hprev] at hq'; cases hq')
        have hans : answer out (appl at_ (a.drop at_) (l[i] :: l.drop (i + 1))) = answer (out ++ (a.drop at_).take (f - at_) ++ l[i].f2) (appl (f + l[i].f1.length) (a.drop (f + l[i].f1.length)) (l.drop (i + 1))) := by
          rw [hap]
          cases appl (f + l[i].f1.length) (a.drop (f + l[i].f1.length)) (l.drop (i + 1)) with
          | none => rfl
          | some r => simp [answer, List.append_assoc]
        rw [hans]
        refine Ev.step (f := fun k => diff_Apply.l0 k a (out ++ (a.drop at_).take (f - at_) ++ l[i].f2) ((f + l[i].f1.length : Nat) : Int) l (l.length : Int) ((i + 1 : Nat) : Int)) (fun k => ?_) ihn
        have etd : (a.take f).drop at_ = (a.drop at_).take (f - at_) := by rw [List.drop_take]
        simp only [diff_Apply.j1]
        rw [if_neg (by simp), if_pos (by omega), if_pos hle, if_pos (by omega), hf]
        rw [Int.toNat_natCast, Int.toNat_natCast, etd, htl, if_pos (by omega), Option.bind_some, List.length_append, htl, if_pos (by omega)]
        have ew' : wrap64 ((f : Int) + (l[i].f1.length : Int)) = ((f + l[i].f1.length : Nat) : Int) := by rw [wrap64_in _ (by omega)]; omega
        rw [ew', wrap_nat i (by omega)]
      · refine Ev.step run2 (Ev.bind hsame ?_)
        rw [hdt, decide_eq_false d3]
        exact bad _ (appl_none (by rw [hsub]; exact fun h => d3 h.2.2))
  have h0 := check_ev l ⟨hl, hb⟩
  rw [if_pos hc] at h0
  have h1 := key _ 0 0 [] rfl (by omega) (by omega) (by simp; exact hs.2) (by simpa [prev] using hc) (fun q hq => by simp [prev] at hq) (fun _ => rfl)
  rw [List.drop_zero, List.drop_zero] at h1
  refine Ev.congr (fun k => rfl) (Ev.bind h0 ?_)
  refine Ev.congr (fun k => ?_) h1
  rw [if_pos rfl]
  rfl
theorem apply_bad (a : L) (l : List S66) (hm : Mild l) (hc : ¬ chk none l = true) : Ev (fun k => diff_Apply.f k a l) ([], 6) := by
  have h0 := check_ev l hm
  rw [if_neg hc] at h0
  refine Ev.congr (fun k => rfl) (Ev.bind h0 ?_)
  exact Ev.congr (fun k => by rw [if_neg (by decide)]) (Ev.now _)
/-! ### diff.Invert -/
theorem invert_ev (l : List S66) (hm : Mild l) (h9 : ∀ h ∈ l, h.f0 ≤ 1000000000) (hs : sumO l ≤ 1000000000 ∧ sumN l ≤ 1000000000) (hc : chk none l = true) : Ev (fun k => diff_Invert.f k l) (inv 0 l) := by
  obtain ⟨hl, hb⟩ := hm
  have key : ∀ d i : Nat, ∀ (z : Int) (out : List S66), l.length - i = d → i ≤ l.length → out.length ≤ i → -(sumO l : Int) + (sumO (l.drop i) : Int) ≤ z → z ≤ (sumN l : Int) - (sumN (l.drop i) : Int) → chk (prev l i) (l.drop i) = true →
      Ev (fun k => diff_Invert.l0 k out z l (l.length : Int) (i : Int)) (out ++ inv z (l.drop i)) := by
    intro d
    induction d with
    | zero =>
      intro i z out hd hi ho hz1 hz2 hck
      have e : l.drop i = [] := List.drop_of_length_le (by omega)
      rw [e]
      refine Ev.step (f := fun _ => some out) (fun k => ?_) (by simpa [inv] using Ev.now out)
      simp only [diff_Invert.l0]
      rw [if_neg (by omega)]
    | succ d ih =>
      intro i z out hd hi ho hz1 hz2 hck
      have h1 : i < l.length := by omega
      have hbi := hb l[i] (List.getElem_mem h1)
      have h9i := h9 l[i] (List.getElem_mem h1)
      rw [List.drop_eq_getElem_cons h1, sumO_cons] at hz1
      rw [List.drop_eq_getElem_cons h1, sumN_cons] at hz2
      rw [List.drop_eq_getElem_cons h1] at hck ⊢
      obtain ⟨c1, c2, c3, c4⟩ := (chk_cons _ _ _).1 hck
      have hprev : prev l (i + 1) = some l[i] := by unfold prev; rw [if_neg (by omega), Nat.add_sub_cancel, List.getElem?_eq_getElem h1]
      have ihn := ih (i + 1) (z + ((l[i].f2.length : Int) - (l[i].f1.length : Int))) (out ++ [⟨l[i].f0 + z, l[i].f2, l[i].f1⟩]) (by omega) (by omega) (by simp; omega) (by omega) (by omega) (by rw [hprev]; exact c4)
      simp only [inv]
      rw [List.append_assoc] at ihn
      refine Ev.step (fun k => ?_) ihn
      simp only [diff_Invert.l0]
      rw [if_pos (by omega), if_pos (by omega), if_pos (by omega), rdT l i h1]
      unfold slices_Clone_string_string.f
      rw [if_pos (by omega), if_pos (by omega), Option.bind_some, Option.bind_some, if_pos (by omega), wrap64_in (l[i].f0 + z) (by omega), wrap64_in ((l[i].f2.length : Int) - (l[i].f1.length : Int)) (by omega), wrap64_in _ (by omega), wrap_nat i (by omega)]
  have h0 := check_ev l ⟨hl, hb⟩
  rw [if_pos hc] at h0
  have h1 := key _ 0 0 [] rfl (by omega) (by simp) (by rw [List.drop_zero]; omega) (by rw [List.drop_zero]; omega) (by simpa [prev] using hc)
  rw [List.drop_zero, List.nil_append] at h1
  refine Ev.congr (fun k => rfl) (Ev.bind h0 ?_)
  refine Ev.congr (fun k => ?_) h1
  rw [if_pos rfl]
  rfl
theorem invert_bad (l : List S66) (hm : Mild l) (hc : ¬ chk none l = true) : Ev (fun k => diff_Invert.f k l) [] := by
  have h0 := check_ev l hm
  rw [if_neg hc] at h0
  refine Ev.congr (fun k => rfl) (Ev.bind h0 ?_)
  exact Ev.congr (fun k => by rw [if_neg (by decide)]) (Ev.now _)
end Go.Proofs.Ytnegeacpfkcecaa.DiffOps
