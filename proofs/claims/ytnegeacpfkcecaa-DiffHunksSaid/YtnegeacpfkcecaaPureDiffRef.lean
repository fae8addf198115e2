/- Proved: the reference's hunks are those of the plain walk. Condition: lists of at most 400 lines. -/
import Derived.Test.YtnegeacpfkcecaaXDiffx0
import Derived.Test.YtnegeacpfkcecaaXDiffx8
import Derived.Test.YtnegeacpfkcecaaXDiffx11
import Derived.Test.YtnegeacpfkcecaaPureDiffAlike
import Derived.Test.YtnegeacpfkcecaaPureDiffWalk
namespace Go.Proofs.Ytnegeacpfkcecaa.DiffRef
open Go.RowKit Go.Proofs.Ytnegeacpfkcecaa.XDiff Go.Proofs.YtnegeacpfkcecaaW.PrintWords Go.Proofs.YtnegeacpfkcecaaW.PrintLast Go.Proofs.YtnegeacpfkcecaaW.PrintMore
open Go.Proofs.Ytnegeacpfkcecaa.DiffSpec Go.Proofs.Ytnegeacpfkcecaa.DiffTable Go.Proofs.Ytnegeacpfkcecaa.DiffOps Go.Proofs.Ytnegeacpfkcecaa.DiffAlike Go.Proofs.Ytnegeacpfkcecaa.DiffWalk

/-- How the hunk that is being told lies in variables. -/
def Rep (c : Option S66) (i : Nat) (at_ : Int) (o n : L) : Prop := match c with
  | none => at_ = (i : Int) ∧ o = [] ∧ n = []
  | some h => at_ = h.f0 ∧ o = h.f1 ∧ n = h.f2 ∧ 0 < o.length + n.length
theorem rep_old {c : Option S66} {i : Nat} {at_ : Int} {o n : L} (h : Rep c i at_ o n) (x : ByteArray) : Rep (some (addO c i x)) (i + 1) at_ (o ++ [x]) n := by
  cases c with
  | none =>
    obtain ⟨h1, h2, h3⟩ := h
    subst h1 h2 h3
    exact ⟨rfl, rfl, rfl, by simp⟩
  | some g =>
    obtain ⟨h1, h2, h3, h4⟩ := h
    subst h1 h2 h3
    exact ⟨rfl, rfl, rfl, by simp; omega⟩
theorem rep_new {c : Option S66} {i : Nat} {at_ : Int} {o n : L} (h : Rep c i at_ o n) (x : ByteArray) : Rep (some (addN c i x)) i at_ o (n ++ [x]) := by
  cases c with
  | none =>
    obtain ⟨h1, h2, h3⟩ := h
    subst h1 h2 h3
    exact ⟨rfl, rfl, rfl, by simp⟩
  | some g =>
    obtain ⟨h1, h2, h3, h4⟩ := h
    subst h1 h2 h3
    exact ⟨rfl, rfl, rfl, by simp; omega⟩
theorem rep_bound {c : Option S66} {dn : List S66} {i k : Nat} {at_ : Int} {o n : L} (h : Rep c i at_ o n) (hf : Fit (dn ++ c.toList) i k) : dn.length ≤ i + k ∧ o.length ≤ i ∧ n.length ≤ k := by
  obtain ⟨f1, f2⟩ := hf
  rw [List.length_append] at f1
  cases c with
  | none =>
    obtain ⟨h1, h2, h3⟩ := h
    subst h2 h3
    exact ⟨by omega, by simp, by simp⟩
  | some g =>
    obtain ⟨h1, h2, h3, h4⟩ := h
    subst h2 h3
    have := f2 g (List.mem_append_right _ (by simp [Option.toList]))
    exact ⟨by omega, this.1, this.2⟩
theorem rep_list {c : Option S66} {i : Nat} {at_ : Int} {o n : L} (h : Rep c i at_ o n) : (if o.length + n.length > 0 then [(⟨at_, o, n⟩ : S66)] else []) = c.toList := by
  cases c with
  | none =>
    obtain ⟨h1, h2, h3⟩ := h
    subst h2 h3
    rfl
  | some g =>
    obtain ⟨h1, h2, h3, h4⟩ := h
    subst h1 h2 h3
    rw [if_pos h4]
    rfl
theorem key (a b : L) (ha : a.length ≤ 400) (hb : b.length ≤ 400) : ∀ (d i k : Nat) (dn : List S66) (c : Option S66) (at_ : Int) (o n : L), (a.length - i) + (b.length - k) ≤ d → i ≤ a.length → k ≤ b.length → Rep c i at_ o n → Fit (dn ++ c.toList) i k →
    Ev (fun q => rafterref04_Hunks.l0 q a b (RR a b) dn (i : Int) (k : Int) at_ o n) (dn ++ hk (a.drop i) (b.drop k) i c) := by
  intro d
  induction d with
  | zero =>
    intro i k dn c at_ o n hd hi hk hr hf
    have e1 : i = a.length := by omega
    have e2 : k = b.length := by omega
    subst e1 e2
    obtain ⟨b1, b2, b3⟩ := rep_bound hr hf
    rw [List.drop_length, List.drop_length, DiffSpec.hk, ← rep_list hr]
    refine Ev.step (f := fun q => rafterref04_Hunks.j2 q a b (RR a b) dn (a.length : Int) (b.length : Int) false at_ o n) (fun q => ?_) (Ev.step (f := fun _ => some (dn ++ if o.length + n.length > 0 then [(⟨at_, o, n⟩ : S66)] else [])) (fun q => ?_) (Ev.now _))
    · simp only [rafterref04_Hunks.l0]
      rw [if_neg (by omega), decide_eq_false (by omega)]
    · simp only [rafterref04_Hunks.j2]
      rw [if_neg (by simp), wrap64_in _ (by omega)]
      by_cases hp : o.length + n.length > 0
      · rw [if_pos (by omega), if_pos (by omega), if_pos hp]
      · rw [if_neg (by omega), if_neg hp, List.append_nil]
  | succ d ih =>
    intro i k dn c at_ o n hd hi hk hr hf
    obtain ⟨b1, b2, b3⟩ := rep_bound hr hf
    by_cases hend : i < a.length ∨ k < b.length
    case neg =>
      have e1 : i = a.length := by omega
      have e2 : k = b.length := by omega
      exact ih i k dn c at_ o n (by omega) hi hk hr hf
    have s0 : ∀ q, rafterref04_Hunks.l0 (q + 1) a b (RR a b) dn (i : Int) (k : Int) at_ o n = rafterref04_Hunks.j2 q a b (RR a b) dn (i : Int) (k : Int) true at_ o n := by
      intro q
      simp only [rafterref04_Hunks.l0]
      by_cases h : i < a.length
      · rw [if_pos (by omega)]
      · rw [if_neg (by omega), decide_eq_true (by omega)]
    have old : i < a.length → Ev (fun q => rafterref04_Hunks.j4 q a b (RR a b) dn (i : Int) (k : Int) true at_ o n) (dn ++ DiffSpec.hk (a.drop (i + 1)) (b.drop k) (i + 1) (some (addO c i a[i]!))) := by
      intro h
      have hx : a[i]! = a[i] := getElem!_pos a i h
      rw [hx]
      refine Ev.step (f := fun q => rafterref04_Hunks.l0 q a b (RR a b) dn ((i + 1 : Nat) : Int) (k : Int) at_ (o ++ [a[i]]) n) (fun q => ?_) (ih (i + 1) k dn _ at_ _ n (by omega) (by omega) hk (rep_old hr _) (fit_old hf _))
      simp only [rafterref04_Hunks.j4]
      rw [if_pos trivial, if_pos (by omega), if_pos (by omega), if_pos (by omega), rd_nat a i h, wrap_nat i (by omega)]
    have new : k < b.length → Ev (fun q => rafterref04_Hunks.j4 q a b (RR a b) dn (i : Int) (k : Int) false at_ o n) (dn ++ DiffSpec.hk (a.drop i) (b.drop (k + 1)) i (some (addN c i b[k]!))) := by
      intro h
      have hx : b[k]! = b[k] := getElem!_pos b k h
      rw [hx]
      refine Ev.step (f := fun q => rafterref04_Hunks.l0 q a b (RR a b) dn (i : Int) ((k + 1 : Nat) : Int) at_ o (n ++ [b[k]])) (fun q => ?_) (ih i (k + 1) dn _ at_ o _ (by omega) hi (by omega) (rep_new hr _) (fit_new hf _))
      simp only [rafterref04_Hunks.j4]
      rw [if_neg (by simp), if_pos (by omega), if_pos (by omega), if_pos (by omega), rd_nat b k h, wrap_nat k (by omega)]
    refine Ev.step s0 ?_
    by_cases h1 : i < a.length
    · by_cases h2 : k < b.length
      · have hx : a[i]! = a[i] := getElem!_pos a i h1
        have hy : b[k]! = b[k] := getElem!_pos b k h2
        rw [List.drop_eq_getElem_cons h1, List.drop_eq_getElem_cons h2]
        refine Ev.step (f := fun q => rafterref04_Hunks.j3 q a b (RR a b) dn (i : Int) (k : Int) (a[i].toList == b[k].toList) at_ o n) (fun q => ?_) ?_
        · simp only [rafterref04_Hunks.j2]
          rw [if_pos trivial, if_pos (by omega), if_pos (by omega), if_pos (by omega), if_pos (by omega), rd_nat a i h1, rd_nat b k h2]
        by_cases he : a[i] = b[k]
        · rw [DiffSpec.hk, if_pos he, ← rep_list hr]
          have hbe : (a[i].toList == b[k].toList) = true := beq_iff_eq.2 (by rw [he])
          rw [hbe]
          have hf2 : Fit ((dn ++ c.toList) ++ (none : Option S66).toList) (i + 1) (k + 1) := by simpa [Option.toList] using fit_up hf (by omega) (by omega)
          have ihn := ih (i + 1) (k + 1) (dn ++ c.toList) none ((i + 1 : Nat) : Int) [] [] (by omega) (by omega) (by omega) ⟨rfl, rfl, rfl⟩ hf2
          rw [← rep_list hr, List.append_assoc] at ihn
          refine Ev.step (fun q => ?_) ihn
          simp only [rafterref04_Hunks.j3]
          rw [if_pos trivial, wrap64_in _ (by omega), wrap_nat i (by omega), wrap_nat k (by omega)]
          by_cases hp : o.length + n.length > 0
          · rw [if_pos (by omega), if_pos (by omega), if_pos hp]
          · rw [if_neg (by omega), if_neg hp, List.append_nil]
        · have hbe : (a[i].toList == b[k].toList) = false := beq_eq_false_iff_ne.2 (fun e => he (toList_inj.1 e))
          rw [hbe, DiffSpec.hk, if_neg he, ← List.drop_eq_getElem_cons h1, ← List.drop_eq_getElem_cons h2]
          have r1 : rd_L4 (RR a b) ((a.length - i - 1 : Nat) : Int) = R a b (i + 1) := by rw [RR_row a b _ (by omega)]; congr 1; omega
          have r2 : rd_L4 (RR a b) ((a.length - i : Nat) : Int) = R a b i := by rw [RR_row a b _ (by omega)]; congr 1; omega
          have l1 : (R a b (i + 1)).length = b.length + 1 := rowf_len _ _
          have l2 : (R a b i).length = b.length + 1 := rowf_len _ _
          have v1 : rd (R a b (i + 1)) (k : Int) = al a b (i + 1) k := rowf_rd _ _ _ (by omega)
          have v2 : rd (R a b i) ((k + 1 : Nat) : Int) = al a b i (k + 1) := rowf_rd _ _ _ (by omega)
          have w1 : wrap64 ((a.length : Int) - (i : Int)) = ((a.length - i : Nat) : Int) := by rw [wrap64_in _ (by omega)]; omega
          have w2 : wrap64 (((a.length - i : Nat) : Int) - 1) = ((a.length - i - 1 : Nat) : Int) := by rw [wrap64_in _ (by omega)]; omega
          have hRl := RR_len a b
          have s3 : ∀ q, rafterref04_Hunks.j3 (q + 1) a b (RR a b) dn (i : Int) (k : Int) false at_ o n = rafterref04_Hunks.j4 q a b (RR a b) dn (i : Int) (k : Int) (decide (al a b (i + 1) k ≥ al a b i (k + 1))) at_ o n := by
            intro q
            simp only [rafterref04_Hunks.j3]
            rw [if_neg (by simp), if_neg (by omega), if_pos (by omega), w1, w2, if_pos (by omega), if_pos (by omega), if_pos (by omega), r1, r2, wrap_nat k (by omega), if_pos (by omega), if_pos (by omega), if_pos (by omega), if_pos (by omega), if_pos (by omega), v1, v2]
          refine Ev.step s3 ?_
          by_cases hg : lcs (a.drop (i + 1)) (b.drop k) ≥ lcs (a.drop i) (b.drop (k + 1))
          · rw [if_pos hg, decide_eq_true (by unfold al; omega)]
            have := old h1
            rw [hx] at this
            exact this
          · rw [if_neg hg, decide_eq_false (by unfold al; omega)]
            have := new h2
            rw [hy] at this
            exact this
      · have hx : a[i]! = a[i] := getElem!_pos a i h1
        have ek : k = b.length := by omega
        rw [List.drop_eq_getElem_cons h1, List.drop_of_length_le (show b.length ≤ k by omega), DiffSpec.hk]
        refine Ev.step (f := fun q => rafterref04_Hunks.j3 q a b (RR a b) dn (i : Int) (k : Int) false at_ o n) (fun q => ?_) (Ev.step (f := fun q => rafterref04_Hunks.j4 q a b (RR a b) dn (i : Int) (k : Int) true at_ o n) (fun q => ?_) ?_)
        · simp only [rafterref04_Hunks.j2]
          rw [if_pos trivial, if_pos (by omega), if_neg (by omega)]
        · simp only [rafterref04_Hunks.j3]
          rw [if_neg (by simp), if_pos (by omega)]
        · have := old h1
          rw [hx, List.drop_of_length_le (show b.length ≤ k by omega)] at this
          exact this
    · have h2 : k < b.length := by omega
      have hy : b[k]! = b[k] := getElem!_pos b k h2
      rw [List.drop_eq_getElem_cons h2, List.drop_of_length_le (show a.length ≤ i by omega), DiffSpec.hk]
      refine Ev.step (f := fun q => rafterref04_Hunks.j3 q a b (RR a b) dn (i : Int) (k : Int) false at_ o n) (fun q => ?_) (Ev.step (f := fun q => rafterref04_Hunks.j4 q a b (RR a b) dn (i : Int) (k : Int) false at_ o n) (fun q => ?_) ?_)
      · simp only [rafterref04_Hunks.j2]
        rw [if_pos trivial, if_neg (by omega)]
      · simp only [rafterref04_Hunks.j3]
        rw [if_neg (by simp), if_neg (by omega), if_neg (by omega)]
      · have := new h2
        rw [hy, List.drop_of_length_le (show a.length ≤ i by omega)] at this
        exact this
theorem ref_ev (a b : L) (ha : a.length ≤ 400) (hb : b.length ≤ 400) : Ev (fun k => rafterref04_Hunks.f k a b) (hk a b 0 none) := by
  have h := key a b ha hb (a.length + b.length) 0 0 [] none 0 [] [] (by omega) (by omega) (by omega) ⟨rfl, rfl, rfl⟩ ⟨by simp [Option.toList], fun h hh => by simp [Option.toList] at hh⟩
  simp only [List.drop_zero, List.nil_append] at h
  refine Ev.congr (f := fun k => rafterref04_Hunks.j0 k a b false) (fun k => ?_) (Ev.step (f := fun k => (rafterref04_Alike.f k a b).bind fun t287 => (rafterref04_Hunks.l0 k a b t287 ([] : List S66) 0 0 0 ([] : List ByteArray) ([] : List ByteArray))) (fun k => ?_) (Ev.bind (alike_ev a b ha hb) h))
  · unfold rafterref04_Hunks.f
    rw [if_neg (by omega), decide_eq_false (by omega)]
  · simp only [rafterref04_Hunks.j0]
    rw [if_neg (by simp)]
end Go.Proofs.Ytnegeacpfkcecaa.DiffRef
