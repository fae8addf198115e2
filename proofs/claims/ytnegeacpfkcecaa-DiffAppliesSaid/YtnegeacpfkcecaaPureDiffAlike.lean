/- Proved: the reference's table, row by row, tells how much is alike of what is left. Condition: lists of at most 400 lines. -/
import Derived.Test.YtnegeacpfkcecaaXDiffx0
import Derived.Test.YtnegeacpfkcecaaXDiffx3
import Derived.Test.YtnegeacpfkcecaaXDiffx7
import Derived.Test.YtnegeacpfkcecaaXDiffx8
import Derived.Test.YtnegeacpfkcecaaPureDiffOps
namespace Go.Proofs.Ytnegeacpfkcecaa.DiffAlike
open Go.RowKit Go.Proofs.Ytnegeacpfkcecaa.XDiff Go.Proofs.YtnegeacpfkcecaaW.PrintWords Go.Proofs.YtnegeacpfkcecaaW.PrintLast Go.Proofs.YtnegeacpfkcecaaW.PrintMore
open Go.Proofs.Ytnegeacpfkcecaa.DiffSpec Go.Proofs.Ytnegeacpfkcecaa.DiffTable Go.Proofs.Ytnegeacpfkcecaa.DiffOps

def rowf (m : Nat) (g : Nat → Int) : List Int := (List.range m).map g
theorem rowf_len (m : Nat) (g : Nat → Int) : (rowf m g).length = m := by simp [rowf]
theorem rowf_rd (m : Nat) (g : Nat → Int) (k : Nat) (h : k < m) : rd (rowf m g) (k : Int) = g k := by
  unfold rd rowf
  rw [Int.toNat_natCast, List.getD_eq_getElem?_getD, List.getElem?_eq_getElem (by simpa using h)]
  simp
theorem rowf_set (m : Nat) (g : Nat → Int) (k : Nat) (v : Int) : (rowf m g).set k v = rowf m (fun c => if c = k then v else g c) := by
  unfold rowf
  apply List.ext_getElem?
  intro c
  rw [List.getElem?_set]
  by_cases hcm : c < m
  · by_cases hc : k = c
    · subst hc
      rw [if_pos rfl, if_pos (by simpa using hcm), List.getElem?_eq_getElem (by simpa using hcm)]
      simp
    · rw [if_neg hc, List.getElem?_eq_getElem (by simpa using hcm), List.getElem?_eq_getElem (by simpa using hcm)]
      have hc' : ¬ c = k := fun e => hc e.symm
      simp [hc']
  · by_cases hc : k = c
    · subst hc
      rw [if_pos rfl, if_neg (by simpa using hcm), List.getElem?_eq_none (by simpa using hcm)]
    · rw [if_neg hc, List.getElem?_eq_none (by simpa using hcm), List.getElem?_eq_none (by simpa using hcm)]
theorem rowf_congr {m : Nat} {g g' : Nat → Int} (h : ∀ c, c < m → g c = g' c) : rowf m g = rowf m g' := by
  unfold rowf
  exact List.map_congr_left fun c hc => h c (by simpa using hc)
theorem rowf_zero (m : Nat) (g : Nat → Int) (h : ∀ c, c < m → g c = 0) : List.replicate m (0 : Int) = rowf m g := by
  unfold rowf
  apply List.ext_getElem?
  intro c
  by_cases hc : c < m
  · rw [List.getElem?_eq_getElem (by simpa using hc), List.getElem?_eq_getElem (by simpa using hc)]
    simp [h c hc]
  · rw [List.getElem?_eq_none (by simpa using hc), List.getElem?_eq_none (by simpa using hc)]
def R (a b : L) (r : Nat) : List Int := rowf (b.length + 1) (al a b r)
def RR (a b : L) : List (List Int) := (List.range (a.length + 1)).map fun j => R a b (a.length - j)
theorem RR_len (a b : L) : (RR a b).length = a.length + 1 := by simp [RR]
theorem RR_row (a b : L) (j : Nat) (h : j ≤ a.length) : rd_L4 (RR a b) (j : Int) = R a b (a.length - j) := by
  unfold rd_L4 RR
  rw [Int.toNat_natCast, List.getD_eq_getElem?_getD, List.getElem?_eq_getElem (by simp; omega)]
  simp
theorem l1_ev (a b : L) (ha : a.length ≤ 1000000) (hb : b.length ≤ 1000000) (i : Nat) (hi : i < a.length) (X : List (List Int)) (hX : X.length < 1000000000) (r : List (List Int))
    (hnext : Ev (fun k => rafterref04_Alike.l0 k a b (X ++ [R a b (i + 1)]) (R a b i) ((i : Int) - 1)) r) :
    ∀ n : Nat, n ≤ b.length → Ev (fun k => rafterref04_Alike.l1 k a b X (R a b (i + 1)) (i : Int) (rowf (b.length + 1) (fun c => if n ≤ c then al a b i c else 0)) ((n : Int) - 1)) r
  | 0, _ => by
    refine Ev.step (fun k => ?_) hnext
    have e : rowf (b.length + 1) (fun c => if 0 ≤ c then al a b i c else 0) = R a b i := rowf_congr fun c _ => by simp
    simp only [rafterref04_Alike.l1]
    rw [if_neg (by omega), if_pos (by omega), e, wrap_in _ (by omega)]
  | n + 1, hn => by
    have ih := l1_ev a b ha hb i hi X hX r hnext n (by omega)
    have e2 : ((n + 1 : Nat) : Int) - 1 = (n : Int) := by omega
    have e3 : wrap64 ((n : Int) + 1) = ((n + 1 : Nat) : Int) := by rw [wrap_in _ (by omega)]; omega
    have e4 : wrap64 ((n : Int) - 1) = (n : Int) - 1 := wrap_in _ (by omega)
    have hst := al_step a b i n hi (by omega)
    have fin : ∀ v : Int, v = al a b i n → rowf (b.length + 1) (fun c => if c = n then v else if n + 1 ≤ c then al a b i c else 0) = rowf (b.length + 1) (fun c => if n ≤ c then al a b i c else 0) := by
      intro v hv
      refine rowf_congr fun c _ => ?_
      by_cases hc : c = n
      · subst hc
        rw [if_pos rfl, if_pos (Nat.le_refl _), hv]
      · rw [if_neg hc]
        by_cases h : n + 1 ≤ c
        · rw [if_pos h, if_pos (by omega)]
        · rw [if_neg h, if_neg (by omega)]
    have r1 : rd (R a b (i + 1)) (n : Int) = al a b (i + 1) n := rowf_rd _ _ _ (by omega)
    have r2 : rd (R a b (i + 1)) ((n + 1 : Nat) : Int) = al a b (i + 1) (n + 1) := rowf_rd _ _ _ (by omega)
    have r3 : rd (rowf (b.length + 1) (fun c => if n + 1 ≤ c then al a b i c else 0)) ((n + 1 : Nat) : Int) = al a b i (n + 1) := by
      rw [rowf_rd _ _ _ (by omega)]
      simp
    have l6 : (R a b (i + 1)).length = b.length + 1 := rowf_len _ _
    have l8 := rowf_len (b.length + 1) (fun c => if n + 1 ≤ c then al a b i c else 0)
    refine Ev.step (f := fun k => rafterref04_Alike.l1 k a b X (R a b (i + 1)) (i : Int) (rowf (b.length + 1) (fun c => if n ≤ c then al a b i c else 0)) ((n : Int) - 1)) (fun k => ?_) ih
    simp only [rafterref04_Alike.l1]
    rw [e2, e3, e4, if_pos (by omega), if_pos (by omega), if_pos (by omega), if_pos (by omega), if_pos (by omega), rd_nat a i hi, rd_nat b n (by omega)]
    by_cases he : a[i] = b[n]
    · rw [if_pos he] at hst
      have hle := (lcs_le _ (a.drop (i + 1)) (b.drop (n + 1)) (Nat.le_refl _)).1
      rw [List.length_drop] at hle
      rw [if_pos (by rw [he]), if_pos (by omega), if_pos (by rw [l6]; omega), if_pos (by rw [l8]; omega), r2, Int.toNat_natCast, wrap_in _ (by unfold al; omega), rowf_set, fin _ hst.symm]
    · rw [if_neg he] at hst
      rw [if_neg (by rw [toList_inj]; exact he), if_pos (by rw [l6]; omega), if_pos (by omega), if_pos (by rw [l8]; omega), r1, r3]
      have hh : ∀ x y : Int, rafterref01_High.f x y = some (mx x y) := by
        intro x y
        unfold rafterref01_High.f mx
        by_cases h : x > y
        · rw [if_pos h, if_neg (by omega)]
        · rw [if_neg h]
          by_cases h2 : x < y
          · rw [if_pos h2]
          · rw [if_neg h2]
            congr 1
            omega
      rw [hh, Option.bind_some, if_pos (by rw [l8]; omega), Int.toNat_natCast, rowf_set, fin _ hst.symm]
theorem l0_ev (a b : L) (ha : a.length ≤ 1000000) (hb : b.length ≤ 1000000) : ∀ q : Nat, q ≤ a.length →
    Ev (fun k => rafterref04_Alike.l0 k a b ((List.range (a.length - q)).map fun j => R a b (a.length - j)) (R a b q) ((q : Int) - 1)) (RR a b)
  | 0, _ => by
    have e : ((List.range (a.length - 0)).map fun j => R a b (a.length - j)) ++ [R a b 0] = RR a b := by
      unfold RR
      rw [List.range_succ, List.map_append, Nat.sub_zero]
      simp
    refine Ev.step (f := fun _ => some (RR a b)) (fun k => ?_) (Ev.now _)
    simp only [rafterref04_Alike.l0]
    rw [if_neg (by omega), if_pos (by simp; omega), e]
  | q + 1, hq => by
    have ih := l0_ev a b ha hb q (by omega)
    have e : ((List.range (a.length - (q + 1))).map fun j => R a b (a.length - j)) ++ [R a b (q + 1)] = (List.range (a.length - q)).map fun j => R a b (a.length - j) := by
      have e1 : a.length - q = (a.length - (q + 1)) + 1 := by omega
      rw [e1, List.range_succ, List.map_append]
      simp only [List.map_cons, List.map_nil]
      congr 3
      omega
    have h1 := l1_ev a b ha hb q (by omega) ((List.range (a.length - (q + 1))).map fun j => R a b (a.length - j)) (by simp; omega) (RR a b) (by rw [e]; exact ih) b.length (Nat.le_refl _)
    refine Ev.step (fun k => ?_) h1
    have e2 : wrap64 ((b.length : Int) + 1) = ((b.length + 1 : Nat) : Int) := by rw [wrap_in _ (by omega)]; omega
    have e5 : ((q + 1 : Nat) : Int) - 1 = (q : Int) := by omega
    simp only [rafterref04_Alike.l0]
    rw [e5, if_pos (by omega), e2, if_pos (by omega), Int.toNat_natCast, if_pos (by omega), wrap_in ((b.length : Int) - 1) (by omega)]
    rw [rowf_zero (b.length + 1) (fun c => if b.length ≤ c then al a b q c else 0) (fun c hc => by
      by_cases h : b.length ≤ c
      · have : c = b.length := by omega
        subst this
        rw [if_pos h, al_end_right]
      · rw [if_neg h])]
theorem cut_eq (a : L) (h : a.length ≤ 400) : rafterref04_cut.f a = some a := by
  unfold rafterref04_cut.f
  rw [if_neg (by omega)]
theorem alike_ev (a b : L) (ha : a.length ≤ 400) (hb : b.length ≤ 400) : Ev (fun k => rafterref04_Alike.f k a b) (RR a b) := by
  have h := l0_ev a b (by omega) (by omega) a.length (Nat.le_refl _)
  rw [Nat.sub_self] at h
  refine Ev.congr (fun k => ?_) h
  have e2 : wrap64 ((b.length : Int) + 1) = ((b.length + 1 : Nat) : Int) := by rw [wrap_in _ (by omega)]; omega
  unfold rafterref04_Alike.f
  rw [cut_eq a ha, cut_eq b hb, Option.bind_some, Option.bind_some, e2, if_pos (by omega), Int.toNat_natCast, if_pos (by omega), wrap_in ((a.length : Int) - 1) (by omega)]
  rw [rowf_zero (b.length + 1) (al a b a.length) (fun c _ => al_end_left a b c)]
  rfl
theorem own_cut (x : L) (hx : x.length ≤ 400) : diff_cut.f x = some x := by
  unfold diff_cut.f
  have e : mn (x.length : Int) 400 = (x.length : Int) := by
    unfold mn
    rw [if_neg (by omega)]
  rw [e, if_pos (by omega), if_pos (by omega), Int.toNat_natCast, List.take_length]
theorem T_first (a b : L) : (T a b).length = a.length + 1 ∧ (rd_L4 (T a b) 0).length = b.length + 1 ∧ rd (rd_L4 (T a b) 0) 0 = ((lcs a b : Nat) : Int) := by
  refine ⟨mat_len _ _ _, ?_, ?_⟩
  · have h := mat_rowlen (a.length + 1) (b.length + 1) (al a b) 0 (Nat.succ_pos _)
    rw [Int.natCast_zero] at h
    exact h
  · have h := mat_rd (a.length + 1) (b.length + 1) (al a b) 0 0 (Nat.succ_pos _) (Nat.succ_pos _)
    rw [Int.natCast_zero] at h
    unfold al at h
    rw [List.drop_zero, List.drop_zero] at h
    exact h
/-- The program's own number. -/
theorem own_ev (a b : L) (ha : a.length ≤ 400) (hb : b.length ≤ 400) : Ev (fun k => diff_Alike.f k a b) ((lcs a b : Nat) : Int) := by
  obtain ⟨h3, h1, h2⟩ := T_first a b
  have ht := table_ev a b (by omega) (by omega)
  generalize T a b = t at ht h1 h2 h3
  refine Ev.congr (f := fun k => (diff_table.f k a b).bind fun t197 => (if 0 < (t197.length : Int) then (if 0 < ((rd_L4 t197 0).length : Int) then (some (rd (rd_L4 t197 0) 0)) else (none)) else (none))) (fun k => ?_) (Ev.bind ht ?_)
  · unfold diff_Alike.f
    rw [own_cut a ha, own_cut b hb, Option.bind_some, Option.bind_some]
  · refine Ev.congr (f := fun _ => some ((lcs a b : Nat) : Int)) (fun k => ?_) (Ev.now _)
    rw [h3, h1, h2, if_pos (by omega), if_pos (by omega)]
end Go.Proofs.Ytnegeacpfkcecaa.DiffAlike
