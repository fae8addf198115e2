/- Proved: the walk through two lists tells the hunks of the plain walk. Condition: lists of at most 400000 lines. -/
import Derived.Test.YtnegeacpfkcecaaXDiffx0
import Derived.Test.YtnegeacpfkcecaaXDiffx3
import Derived.Test.YtnegeacpfkcecaaXDiffx4
import Derived.Test.YtnegeacpfkcecaaPureDiffTable
namespace Go.Proofs.Ytnegeacpfkcecaa.DiffWalk
open Go.RowKit Go.Proofs.Ytnegeacpfkcecaa.XDiff Go.Proofs.YtnegeacpfkcecaaW.PrintWords Go.Proofs.YtnegeacpfkcecaaW.PrintLast Go.Proofs.YtnegeacpfkcecaaW.PrintMore
open Go.Proofs.Ytnegeacpfkcecaa.DiffSpec Go.Proofs.Ytnegeacpfkcecaa.DiffTable

theorem getD_last (xs : List S66) (h : S66) : (xs ++ [h]).getD ((xs ++ [h]).length - 1) z66 = h := by simp
theorem set_last (xs : List S66) (h g : S66) : (xs ++ [h]).set ((xs ++ [h]).length - 1) g = xs ++ [g] := by
  rw [List.length_append, List.length_singleton, Nat.add_sub_cancel, List.set_append_right _ _ (Nat.le_refl _), Nat.sub_self]
  rfl
theorem old_eq (dn : List S66) (c : Option S66) (i : Nat) (x : ByteArray) : diff_walk.addOld (diff_walk.open_ (dn ++ c.toList) c.isSome i) x = dn ++ (some (addO c i x)).toList := by
  cases c with
  | none =>
    simp only [diff_walk.open_, Option.toList, Option.isSome, List.append_nil, if_neg Bool.false_ne_true]
    unfold diff_walk.addOld
    rw [getD_last, set_last]
    rfl
  | some h =>
    simp only [diff_walk.open_, Option.toList, Option.isSome, if_pos]
    unfold diff_walk.addOld
    rw [getD_last, set_last]
    rfl
theorem new_eq (dn : List S66) (c : Option S66) (i : Nat) (x : ByteArray) : diff_walk.addNew (diff_walk.open_ (dn ++ c.toList) c.isSome i) x = dn ++ (some (addN c i x)).toList := by
  cases c with
  | none =>
    simp only [diff_walk.open_, Option.toList, Option.isSome, List.append_nil, if_neg Bool.false_ne_true]
    unfold diff_walk.addNew
    rw [getD_last, set_last]
    rfl
  | some h =>
    simp only [diff_walk.open_, Option.toList, Option.isSome, if_pos]
    unfold diff_walk.addNew
    rw [getD_last, set_last]
    rfl
theorem row_T (a b : L) (i : Nat) (h : i < a.length + 1) : (diff_walk.row (T a b) (i : Int)).length = b.length + 1 := mat_rowlen _ _ _ i h
theorem ge_T (a b : L) (i k : Nat) (hi : i < a.length) (hk : k < b.length) : diff_walk.ge (T a b) i k = decide (lcs (a.drop (i + 1)) (b.drop k) ≥ lcs (a.drop i) (b.drop (k + 1))) := by
  unfold diff_walk.ge
  have h1 : rd (diff_walk.row (T a b) ((i : Int) + 1)) (k : Int) = al a b (i + 1) k := mat_rd (a.length + 1) (b.length + 1) (al a b) (i + 1) k (by omega) (by omega)
  have h2 : rd (diff_walk.row (T a b) (i : Int)) ((k : Int) + 1) = al a b i (k + 1) := mat_rd (a.length + 1) (b.length + 1) (al a b) i (k + 1) (by omega) (by omega)
  rw [h1, h2]
  unfold al
  by_cases h : lcs (a.drop (i + 1)) (b.drop k) ≥ lcs (a.drop i) (b.drop (k + 1))
  · rw [decide_eq_true h, decide_eq_true (by omega)]
  · rw [decide_eq_false h, decide_eq_false (by omega)]
/-- What holds of the hunks told so far. -/
def Fit (xs : List S66) (i k : Nat) : Prop := xs.length ≤ i + k ∧ ∀ h ∈ xs, h.f1.length ≤ i ∧ h.f2.length ≤ k
theorem fit_up {xs : List S66} {i k i' k' : Nat} (h : Fit xs i k) (hi : i ≤ i') (hk : k ≤ k') : Fit xs i' k' := ⟨by have := h.1; omega, fun x hx => by have := h.2 x hx; omega⟩
theorem fit_old {dn : List S66} {c : Option S66} {i k : Nat} (h : Fit (dn ++ c.toList) i k) (x : ByteArray) : Fit (dn ++ (some (addO c i x)).toList) (i + 1) k := by
  obtain ⟨h1, h2⟩ := h
  cases c with
  | none =>
    simp only [Option.toList, List.append_nil] at h1 h2
    refine ⟨by simp [Option.toList]; omega, fun y hy => ?_⟩
    rcases List.mem_append.1 hy with hy | hy
    · have := h2 y hy; omega
    · obtain rfl := List.mem_singleton.1 hy
      simp [addO]
  | some g =>
    simp only [Option.toList, List.length_append, List.length_singleton] at h1
    refine ⟨by simp [Option.toList]; omega, fun y hy => ?_⟩
    rcases List.mem_append.1 hy with hy | hy
    · have := h2 y (List.mem_append_left _ hy); omega
    · obtain rfl := List.mem_singleton.1 hy
      have := h2 g (List.mem_append_right _ (List.mem_singleton.2 rfl))
      simp [addO]
      omega
theorem fit_new {dn : List S66} {c : Option S66} {i k : Nat} (h : Fit (dn ++ c.toList) i k) (x : ByteArray) : Fit (dn ++ (some (addN c i x)).toList) i (k + 1) := by
  obtain ⟨h1, h2⟩ := h
  cases c with
  | none =>
    simp only [Option.toList, List.append_nil] at h1 h2
    refine ⟨by simp [Option.toList]; omega, fun y hy => ?_⟩
    rcases List.mem_append.1 hy with hy | hy
    · have := h2 y hy; omega
    · obtain rfl := List.mem_singleton.1 hy
      simp [addN]
  | some g =>
    simp only [Option.toList, List.length_append, List.length_singleton] at h1
    refine ⟨by simp [Option.toList]; omega, fun y hy => ?_⟩
    rcases List.mem_append.1 hy with hy | hy
    · have := h2 y (List.mem_append_left _ hy); omega
    · obtain rfl := List.mem_singleton.1 hy
      have := h2 g (List.mem_append_right _ (List.mem_singleton.2 rfl))
      simp [addN]
      omega
theorem go_eq (a b : L) (ha : a.length ≤ 400000) (hb : b.length ≤ 400000) : ∀ (d i k n : Nat) (dn : List S66) (c : Option S66), (a.length - i) + (b.length - k) ≤ d → i ≤ a.length → k ≤ b.length → d < n → Fit (dn ++ c.toList) i k →
    diff_walk.go n (T a b) a b (dn ++ c.toList) c.isSome i k = some (dn ++ hk (a.drop i) (b.drop k) i c) := by
  intro d
  induction d with
  | zero =>
    intro i k n dn c hd hi hk hn hf
    obtain ⟨n, rfl⟩ : ∃ m, n = m + 1 := ⟨n - 1, by omega⟩
    obtain ⟨f1, f2⟩ := hf
    have e1 : i = a.length := by omega
    have e2 : k = b.length := by omega
    subst e1 e2
    rw [List.drop_length, List.drop_length, DiffSpec.hk]
    unfold diff_walk.go
    have hpos : c.isSome = true → 0 < (dn ++ c.toList).length := by
      intro hc
      cases c with
      | none => cases hc
      | some g => simp [Option.toList]
    rw [if_pos ⟨by omega, hpos, fun h hh => by have := f2 h hh; omega, Nat.le_refl _, Nat.le_refl _⟩, if_neg (by omega)]
  | succ d ih =>
    intro i k n dn c hd hi hk hn hf
    obtain ⟨n, rfl⟩ : ∃ m, n = m + 1 := ⟨n - 1, by omega⟩
    have hf' := hf
    obtain ⟨f1, f2⟩ := hf'
    have hpos : c.isSome = true → 0 < (dn ++ c.toList).length := by
      intro hc
      cases c with
      | none => cases hc
      | some g => simp [Option.toList]
    unfold diff_walk.go
    by_cases hend : i < a.length ∨ k < b.length
    case neg =>
      have e1 : i = a.length := by omega
      have e2 : k = b.length := by omega
      subst e1 e2
      rw [List.drop_length, List.drop_length, DiffSpec.hk, if_pos ⟨by omega, hpos, fun h hh => by have := f2 h hh; omega, hi, hk⟩, if_neg hend]
    rw [if_pos ⟨by omega, hpos, fun h hh => by have := f2 h hh; omega, hi, hk⟩, if_pos hend]
    by_cases hi1 : i < a.length
    · by_cases hk1 : k < b.length
      · rw [List.drop_eq_getElem_cons hi1, List.drop_eq_getElem_cons hk1]
        have ea : diff_walk.at_ a i = a[i] := rd_nat a i hi1
        have eb : diff_walk.at_ b k = b[k] := rd_nat b k hk1
        rw [ea, eb]
        by_cases he : a[i] = b[k]
        · rw [if_pos ⟨hi1, hk1, by rw [he]⟩, DiffSpec.hk, if_pos he]
          have := ih (i + 1) (k + 1) n (dn ++ c.toList) none (by omega) (by omega) (by omega) (by omega) (by simpa [Option.toList] using fit_up hf (by omega) (by omega))
          simpa [Option.toList, Option.isSome] using this
        · rw [if_neg (fun h => he (toList_inj.1 h.2.2)), if_neg (fun h => h.2.2 ⟨by show i + 1 < (mat (a.length + 1) (b.length + 1) (al a b)).length; rw [mat_len]; omega, by rw [show ((i : Int) + 1) = ((i + 1 : Nat) : Int) from by omega, row_T a b (i + 1) (by omega)]; omega, by rw [row_T a b i (by omega)]; omega⟩)]
          rw [DiffSpec.hk, if_neg he, ge_T a b i k hi1 hk1]
          rw [← List.drop_eq_getElem_cons hi1, ← List.drop_eq_getElem_cons hk1]
          by_cases hg : lcs (a.drop (i + 1)) (b.drop k) ≥ lcs (a.drop i) (b.drop (k + 1))
          · rw [if_pos (Or.inr ⟨hi1, decide_eq_true hg⟩), if_pos hg, old_eq]
            exact ih (i + 1) k n dn (some (addO c i a[i])) (by omega) (by omega) hk (by omega) (fit_old hf _)
          · rw [if_neg (fun h => h.elim (fun e => by omega) (fun e => by rw [decide_eq_false hg] at e; cases e.2)), if_neg hg, new_eq]
            exact ih i (k + 1) n dn (some (addN c i b[k])) (by omega) hi (by omega) (by omega) (fit_new hf _)
      · have ek : k = b.length := by omega
        rw [if_neg (fun h => hk1 h.2.1), if_neg (fun h => hk1 h.1), if_pos (Or.inl ek)]
        have ea : diff_walk.at_ a i = a[i] := rd_nat a i hi1
        rw [ea, old_eq]
        have := ih (i + 1) k n dn (some (addO c i a[i])) (by omega) (by omega) hk (by omega) (fit_old hf _)
        rw [show (some (addO c i a[i])).isSome = true from rfl] at this
        rw [this, List.drop_eq_getElem_cons hi1, ek, List.drop_length, DiffSpec.hk]
    · have ei : i = a.length := by omega
      have hk1 : k < b.length := by omega
      rw [if_neg (fun h => hi1 h.1), if_neg (fun h => hi1 h.2.1), if_neg (by omega)]
      have eb : diff_walk.at_ b k = b[k] := rd_nat b k hk1
      rw [eb, new_eq]
      have := ih i (k + 1) n dn (some (addN c i b[k])) (by omega) hi (by omega) (by omega) (fit_new hf _)
      rw [show (some (addN c i b[k])).isSome = true from rfl] at this
      rw [this, List.drop_eq_getElem_cons hk1, ei, List.drop_length, DiffSpec.hk]
/-- The walk, whole. -/
theorem walk_ev (a b : L) (ha : a.length ≤ 400000) (hb : b.length ≤ 400000) : Ev (fun k => diff_walk.f k a b) (DiffSpec.hk a b 0 none) := by
  have ht := table_ev a b (by omega) (by omega)
  refine Ev.congr (f := fun k => (diff_table.f k a b).bind fun t => diff_walk.go k t a b [] false 0 0) (fun k => ?_) (Ev.bind ht ?_)
  · unfold diff_walk.f
    rw [if_pos (by omega)]
  · refine ⟨a.length + b.length + 1, fun k hk => ?_⟩
    have := go_eq a b ha hb (a.length + b.length) 0 0 k [] none (by omega) (by omega) (by omega) (by omega) ⟨by simp, fun h hh => by simp at hh⟩
    simpa [Option.toList, Option.isSome] using this
end Go.Proofs.Ytnegeacpfkcecaa.DiffWalk
