/- Proved: the table of the walk tells how much is alike of what is left. Condition: lists of at most 2^20 lines. -/
import Derived.Test.YtnegeacpfkcecaaXDiffx0
import Derived.Test.YtnegeacpfkcecaaXDiffx3
import Derived.Test.YtnegeacpfkcecaaPureDiffSpec
import Derived.Sort.Walk0
namespace Go.Proofs.Ytnegeacpfkcecaa.DiffTable
open Go.RowKit Go.Proofs.Ytnegeacpfkcecaa.XDiff Go.Proofs.YtnegeacpfkcecaaW.PrintWords Go.Proofs.YtnegeacpfkcecaaW.PrintLast Go.Proofs.YtnegeacpfkcecaaW.PrintMore
open Go.Proofs.Ytnegeacpfkcecaa.DiffSpec

theorem wrap_in (z : Int) (h : -1000000000000 ≤ z ∧ z ≤ 1000000000000) : wrap64 z = z := by unfold wrap64; omega
theorem rd_nat (l : List ByteArray) (i : Nat) (h : i < l.length) : rdOf ByteArray.empty l (i : Int) = l[i] := by
  unfold rdOf
  rw [Int.toNat_natCast, List.getD_eq_getElem?_getD, List.getElem?_eq_getElem h]
  rfl
/-- A table of n rows of m numbers. -/
def mat (n m : Nat) (g : Nat → Nat → Int) : List (List Int) := (List.range n).map fun r => (List.range m).map fun c => g r c
theorem mat_len (n m : Nat) (g : Nat → Nat → Int) : (mat n m g).length = n := by simp [mat]
theorem mat_row (n m : Nat) (g : Nat → Nat → Int) (i : Nat) (h : i < n) : rd_L4 (mat n m g) (i : Int) = (List.range m).map fun c => g i c := by
  unfold rd_L4 mat
  rw [Int.toNat_natCast, List.getD_eq_getElem?_getD, List.getElem?_eq_getElem (by simpa using h)]
  simp
theorem mat_rowlen (n m : Nat) (g : Nat → Nat → Int) (i : Nat) (h : i < n) : (rd_L4 (mat n m g) (i : Int)).length = m := by rw [mat_row n m g i h]; simp
theorem mat_rd (n m : Nat) (g : Nat → Nat → Int) (i k : Nat) (h : i < n) (hk : k < m) : rd (rd_L4 (mat n m g) (i : Int)) (k : Int) = g i k := by
  rw [mat_row n m g i h]
  unfold rd
  rw [Int.toNat_natCast, List.getD_eq_getElem?_getD, List.getElem?_eq_getElem (by simpa using hk)]
  simp
def upd (g : Nat → Nat → Int) (i k : Nat) (v : Int) : Nat → Nat → Int := fun r c => if r = i ∧ c = k then v else g r c
theorem mat_set (n m : Nat) (g : Nat → Nat → Int) (i k : Nat) (v : Int) (h : i < n) (hk : k < m) : (mat n m g).set i ((rd_L4 (mat n m g) (i : Int)).set k v) = mat n m (upd g i k v) := by
  rw [mat_row n m g i h]
  unfold mat
  apply List.ext_getElem?
  intro r
  rw [List.getElem?_set]
  by_cases hr : i = r
  · subst hr
    rw [if_pos rfl, if_pos (by simpa using h), List.getElem?_eq_getElem (by simpa using h)]
    congr 1
    simp only [List.getElem_map, List.getElem_range]
    apply List.ext_getElem?
    intro c
    rw [List.getElem?_set]
    by_cases hc : k = c
    · subst hc
      rw [if_pos rfl, if_pos (by simpa using hk), List.getElem?_eq_getElem (by simpa using hk)]
      simp [upd]
    · rw [if_neg hc]
      by_cases hcm : c < m
      · rw [List.getElem?_eq_getElem (by simpa using hcm), List.getElem?_eq_getElem (by simpa using hcm)]
        have hc' : ¬ c = k := fun e => hc e.symm
        simp [upd, hc']
      · rw [List.getElem?_eq_none (by simpa using hcm), List.getElem?_eq_none (by simpa using hcm)]
  · rw [if_neg hr]
    by_cases hrn : r < n
    · rw [List.getElem?_eq_getElem (by simpa using hrn), List.getElem?_eq_getElem (by simpa using hrn)]
      have hr' : ¬ r = i := fun e => hr e.symm
      simp [upd, hr']
    · rw [List.getElem?_eq_none (by simpa using hrn), List.getElem?_eq_none (by simpa using hrn)]
theorem mat_congr {n m : Nat} {g g' : Nat → Nat → Int} (h : ∀ r c, r < n → c < m → g r c = g' r c) : mat n m g = mat n m g' := by
  unfold mat
  apply List.map_congr_left
  intro r hr
  apply List.map_congr_left
  intro c hc
  exact h r c (by simpa using hr) (by simpa using hc)
/-- How much is alike of what is left from a pair of places on. -/
def al (a b : L) (r c : Nat) : Int := ((lcs (a.drop r) (b.drop c) : Nat) : Int)
theorem al_end_left (a b : L) (c : Nat) : al a b a.length c = 0 := by unfold al; rw [List.drop_length, lcs_nil_left]; rfl
theorem al_end_right (a b : L) (r : Nat) : al a b r b.length = 0 := by unfold al; rw [List.drop_length, lcs_nil_right]; rfl
theorem al_step (a b : L) (r c : Nat) (hr : r < a.length) (hc : c < b.length) : al a b r c = if a[r] = b[c] then al a b (r + 1) (c + 1) + 1 else mx (al a b (r + 1) c) (al a b r (c + 1)) := by
  unfold al
  rw [List.drop_eq_getElem_cons hr, List.drop_eq_getElem_cons hc, lcs_cons]
  split
  · rfl
  · unfold mx
    split <;> omega
def T (a b : L) : List (List Int) := mat (a.length + 1) (b.length + 1) (al a b)
/-- What is known when row i is done from column k on. -/
def G (a b : L) (i k : Nat) : Nat → Nat → Int := fun r c => if i < r ∨ (r = i ∧ k ≤ c) then al a b r c else 0

theorem l2_ev (a b : L) (ha : a.length ≤ 1000000) (hb : b.length ≤ 1000000) (i : Nat) (hi : i < a.length) (r : List (List Int)) (hnext : Ev (fun k => diff_table.l1 k a b (mat (a.length + 1) (b.length + 1) (G a b i 0)) ((i : Int) - 1)) r) :
    ∀ m : Nat, m ≤ b.length → Ev (fun k => diff_table.l2 k a b (mat (a.length + 1) (b.length + 1) (G a b i m)) (i : Int) ((m : Int) - 1)) r
  | 0, _ => by
    refine Ev.step (f := fun k => diff_table.l1 k a b (mat (a.length + 1) (b.length + 1) (G a b i 0)) ((i : Int) - 1)) (fun k => ?_) hnext
    simp only [diff_table.l2]
    rw [if_neg (by omega), wrap_in _ (by omega)]
  | m + 1, hm => by
    have ih := l2_ev a b ha hb i hi r hnext m (by omega)
    refine Ev.step (f := fun k => diff_table.l2 k a b (mat (a.length + 1) (b.length + 1) (G a b i m)) (i : Int) ((m : Int) - 1)) (fun k => ?_) ih
    simp only [diff_table.l2]
    have e1 : wrap64 ((i : Int) + 1) = ((i + 1 : Nat) : Int) := by rw [wrap_in _ (by omega)]; omega
    have e2 : ((m + 1 : Nat) : Int) - 1 = (m : Int) := by omega
    have e3 : wrap64 ((m : Int) + 1) = ((m + 1 : Nat) : Int) := by rw [wrap_in _ (by omega)]; omega
    have e4 : wrap64 ((m : Int) - 1) = (m : Int) - 1 := wrap_in _ (by omega)
    rw [e2, e1, e3, e4]
    generalize hN : a.length + 1 = N
    generalize hM : b.length + 1 = M
    have iN : i < N := by omega
    have i1N : i + 1 < N := by omega
    have mM : m < M := by omega
    have m1M : m + 1 < M := by omega
    rw [if_pos (by omega), if_pos (by omega), if_pos (by rw [mat_len]; omega), if_pos (by omega), if_pos (by rw [mat_len]; omega), if_pos (by omega), if_pos (by rw [mat_rowlen _ _ _ _ i1N]; omega), if_pos (by omega), if_pos (by rw [mat_rowlen _ _ _ _ iN]; omega), if_pos (by rw [mat_rowlen _ _ _ _ iN]; omega)]
    rw [Option.bind_some, Int.toNat_natCast, Int.toNat_natCast, mat_rd _ _ _ _ _ i1N mM, mat_rd _ _ _ _ _ iN m1M, mat_set _ _ _ _ _ _ iN mM]
    rw [if_pos (by omega), if_pos (by omega), rd_nat a i hi, rd_nat b m (by omega)]
    have g1 : G a b i (m + 1) (i + 1) m = al a b (i + 1) m := by unfold G; rw [if_pos (by omega)]
    have g2 : G a b i (m + 1) i (m + 1) = al a b i (m + 1) := by unfold G; rw [if_pos (by omega)]
    rw [g1, g2]
    have hst := al_step a b i m hi (by omega)
    by_cases he : a[i] = b[m]
    · rw [if_pos (by rw [he]), if_pos (by rw [mat_rowlen _ _ _ _ i1N]; omega), if_pos (by rw [mat_rowlen _ _ _ _ iN]; omega), mat_rd _ _ _ _ _ i1N m1M, mat_set _ _ _ _ _ _ iN mM]
      rw [if_pos he] at hst
      have g3 : upd (G a b i (m + 1)) i m (mx (al a b (i + 1) m) (al a b i (m + 1))) (i + 1) (m + 1) = al a b (i + 1) (m + 1) := by unfold upd G; rw [if_neg (by omega), if_pos (by omega)]
      have hle := (lcs_le _ (a.drop (i + 1)) (b.drop (m + 1)) (Nat.le_refl _)).1
      rw [g3, wrap_in _ (by unfold al; rw [List.length_drop] at hle; omega), ← hst]
      congr 1
      refine mat_congr fun r c _ _ => ?_
      unfold upd G
      by_cases hrc : r = i ∧ c = m
      · obtain ⟨rfl, rfl⟩ := hrc
        simp
      · rw [if_neg hrc, if_neg hrc]
        by_cases h1 : i < r ∨ (r = i ∧ m + 1 ≤ c)
        · rw [if_pos h1, if_pos (by omega)]
        · rw [if_neg h1, if_neg (by omega)]
    · rw [if_neg (by rw [toList_inj]; exact he)]
      rw [if_neg he] at hst
      rw [← hst]
      congr 1
      refine mat_congr fun r c _ _ => ?_
      unfold upd G
      by_cases hrc : r = i ∧ c = m
      · obtain ⟨rfl, rfl⟩ := hrc
        simp
      · rw [if_neg hrc]
        by_cases h1 : i < r ∨ (r = i ∧ m + 1 ≤ c)
        · rw [if_pos h1, if_pos (by omega)]
        · rw [if_neg h1, if_neg (by omega)]
theorem l1_ev (a b : L) (ha : a.length ≤ 1000000) (hb : b.length ≤ 1000000) : ∀ m : Nat, m ≤ a.length → Ev (fun k => diff_table.l1 k a b (mat (a.length + 1) (b.length + 1) (fun r c => if m ≤ r then al a b r c else 0)) ((m : Int) - 1)) (T a b)
  | 0, _ => by
    have e : mat (a.length + 1) (b.length + 1) (fun r c => if 0 ≤ r then al a b r c else 0) = T a b := mat_congr fun r c _ _ => by simp
    rw [e]
    refine Ev.step (f := fun _ => some (T a b)) (fun k => ?_) (Ev.now _)
    simp only [diff_table.l1]
    rw [if_neg (by omega)]
  | m + 1, hm => by
    have ih := l1_ev a b ha hb m (by omega)
    have e0 : mat (a.length + 1) (b.length + 1) (G a b m 0) = mat (a.length + 1) (b.length + 1) (fun r c => if m ≤ r then al a b r c else 0) := mat_congr fun r c _ _ => by
      unfold G
      by_cases h : m ≤ r
      · rw [if_pos h, if_pos (by omega)]
      · rw [if_neg h, if_neg (by omega)]
    have e1 : mat (a.length + 1) (b.length + 1) (G a b m b.length) = mat (a.length + 1) (b.length + 1) (fun r c => if m + 1 ≤ r then al a b r c else 0) := mat_congr fun r c _ hc => by
      unfold G
      by_cases h : m + 1 ≤ r
      · rw [if_pos (by omega), if_pos h]
      · rw [if_neg h]
        by_cases h2 : r = m ∧ b.length ≤ c
        · rw [if_pos (by omega)]
          have : c = b.length := by omega
          subst this
          exact al_end_right a b r
        · rw [if_neg (by omega)]
    have h2 := l2_ev a b ha hb m (by omega) (T a b) (by rw [e0]; exact ih) b.length (Nat.le_refl _)
    refine Ev.step (f := fun k => diff_table.l2 k a b (mat (a.length + 1) (b.length + 1) (G a b m b.length)) (m : Int) ((b.length : Int) - 1)) (fun k => ?_) h2
    rw [e1]
    simp only [diff_table.l1]
    rw [if_pos (by omega), wrap_in _ (by omega)]
    congr 1
    omega
/-- The first j rows are made. -/
def rows0 (n m j : Nat) : List (List Int) := (List.range n).map fun r => if r < j then List.replicate m 0 else []
theorem rows0_len (n m j : Nat) : (rows0 n m j).length = n := by simp [rows0]
theorem rows0_set (n m j : Nat) : (rows0 n m j).set j (List.replicate m 0) = rows0 n m (j + 1) := by
  unfold rows0
  apply List.ext_getElem?
  intro r
  rw [List.getElem?_set]
  by_cases hrn : r < n
  · by_cases hr : j = r
    · subst hr
      rw [if_pos rfl, if_pos (by simpa using hrn), List.getElem?_eq_getElem (by simpa using hrn)]
      simp
    · rw [if_neg hr, List.getElem?_eq_getElem (by simpa using hrn), List.getElem?_eq_getElem (by simpa using hrn)]
      congr 1
      simp only [List.getElem_map, List.getElem_range]
      by_cases h : r < j
      · rw [if_pos h, if_pos (by omega)]
      · rw [if_neg h, if_neg (by omega)]
  · by_cases hr : j = r
    · subst hr
      rw [if_pos rfl, if_neg (by simpa using hrn), List.getElem?_eq_none (by simpa using hrn)]
    · rw [if_neg hr, List.getElem?_eq_none (by simpa using hrn), List.getElem?_eq_none (by simpa using hrn)]
theorem l0_ev (a b : L) (ha : a.length ≤ 1000000) (hb : b.length ≤ 1000000) : ∀ d j : Nat, a.length + 1 - j = d → j ≤ a.length + 1 →
    Ev (fun k => diff_table.l0 k a b (rows0 (a.length + 1) (b.length + 1) j) ((a.length + 1 : Nat) : Int) (j : Int)) (T a b)
  | 0, j, hd, hj => by
    have hj' : j = a.length + 1 := by omega
    subst hj'
    have e : rows0 (a.length + 1) (b.length + 1) (a.length + 1) = mat (a.length + 1) (b.length + 1) (fun r c => if a.length ≤ r then al a b r c else 0) := by
      unfold rows0 mat
      apply List.map_congr_left
      intro r hr
      have hr' : r < a.length + 1 := by simpa using hr
      rw [if_pos hr']
      apply List.ext_getElem?
      intro c
      by_cases hc : c < b.length + 1
      · rw [List.getElem?_eq_getElem (by simpa using hc), List.getElem?_eq_getElem (by simpa using hc)]
        simp only [List.getElem_replicate, List.getElem_map, List.getElem_range]
        by_cases h : a.length ≤ r
        · have : r = a.length := by omega
          subst this
          rw [if_pos h, al_end_left]
        · rw [if_neg h]
      · rw [List.getElem?_eq_none (by simpa using hc), List.getElem?_eq_none (by simpa using hc)]
    refine Ev.step (f := fun k => diff_table.l1 k a b (mat (a.length + 1) (b.length + 1) (fun r c => if a.length ≤ r then al a b r c else 0)) ((a.length : Int) - 1)) (fun k => ?_) (l1_ev a b ha hb a.length (Nat.le_refl _))
    simp only [diff_table.l0]
    rw [if_neg (by omega), e, wrap_in _ (by omega)]
  | d + 1, j, hd, hj => by
    have ih := l0_ev a b ha hb d (j + 1) (by omega) (by omega)
    refine Ev.step (f := fun k => diff_table.l0 k a b (rows0 (a.length + 1) (b.length + 1) (j + 1)) ((a.length + 1 : Nat) : Int) ((j + 1 : Nat) : Int)) (fun k => ?_) ih
    have e1 : wrap64 ((b.length : Int) + 1) = ((b.length + 1 : Nat) : Int) := by rw [wrap_in _ (by omega)]; omega
    have e2 : wrap64 ((j : Int) + 1) = ((j + 1 : Nat) : Int) := by rw [wrap_in _ (by omega)]; omega
    simp only [diff_table.l0]
    rw [if_pos (by omega), e1, if_pos (by omega), Int.toNat_natCast, if_pos (by omega), if_pos (by omega), if_pos (by rw [rows0_len]; omega), Int.toNat_natCast, rows0_set, e2]
/-- The whole table. -/
theorem table_ev (a b : L) (ha : a.length ≤ 1000000) (hb : b.length ≤ 1000000) : Ev (fun k => diff_table.f k a b) (T a b) := by
  have e1 : wrap64 ((a.length : Int) + 1) = ((a.length + 1 : Nat) : Int) := by rw [wrap_in _ (by omega)]; omega
  have h := l0_ev a b ha hb (a.length + 1) 0 (by omega) (by omega)
  have e2 : List.replicate (a.length + 1) ([] : List Int) = rows0 (a.length + 1) (b.length + 1) 0 := by
    unfold rows0
    apply List.ext_getElem?
    intro r
    by_cases hr : r < a.length + 1
    · rw [List.getElem?_eq_getElem (by simpa using hr), List.getElem?_eq_getElem (by simpa using hr)]
      simp
    · rw [List.getElem?_eq_none (by simpa using hr), List.getElem?_eq_none (by simpa using hr)]
  refine Ev.congr (fun k => ?_) h
  unfold diff_table.f
  rw [e1, if_pos (by omega), Int.toNat_natCast, if_pos (by omega), e2]
  rfl
end Go.Proofs.Ytnegeacpfkcecaa.DiffTable
