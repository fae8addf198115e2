/- Proved: a list that rises strictly by a total order is told by what it has; what ident.Set and name.Set answer rises so. No condition. -/
import Derived.Test.YtgbdohidlndhjaaEIds
import Derived.Test.YtgbdohidlndhjaaESort
namespace Go.Proofs.Ytgbdohidlndhjaa.IsOrd
open Go.Lib Go.Sort Go.RowKit Go.Proofs.Ytgbdohidlndhjaa.XIs
open Go.Proofs.Ytgbdohidlndhjaa.EName (bs setL)
set_option linter.unusedVariables false
set_option linter.unusedSimpArgs false
section
variable {α : Type} {R : α → α → Prop}
theorem pw_ext (irr : ∀ x, ¬ R x x) (tr : ∀ {x y z}, R x y → R y z → R x z) : ∀ {a b : List α}, a.Pairwise R → b.Pairwise R → (∀ x, x ∈ a ↔ x ∈ b) → a = b := by
  intro a
  induction a with
  | nil =>
    intro b _ _ h
    cases b with
    | nil => rfl
    | cons y b => exact absurd ((h y).2 (List.mem_cons_self)) (by simp)
  | cons x a ih =>
    intro b ha hb h
    cases b with
    | nil => exact absurd ((h x).1 (List.mem_cons_self)) (by simp)
    | cons y b =>
      obtain ⟨ha1, ha2⟩ := List.pairwise_cons.1 ha
      obtain ⟨hb1, hb2⟩ := List.pairwise_cons.1 hb
      have hxy : x = y := by
        rcases List.mem_cons.1 ((h x).1 List.mem_cons_self) with e | e
        · exact e
        · rcases List.mem_cons.1 ((h y).2 List.mem_cons_self) with e2 | e2
          · exact e2.symm
          · exact absurd (tr (hb1 x e) (ha1 y e2)) (irr _)
      subst hxy
      refine congrArg _ (ih ha2 hb2 fun z => ⟨fun hz => ?_, fun hz => ?_⟩)
      · rcases List.mem_cons.1 ((h z).1 (List.mem_cons_of_mem _ hz)) with e | e
        · subst e; exact absurd (ha1 z hz) (irr _)
        · exact e
      · rcases List.mem_cons.1 ((h z).2 (List.mem_cons_of_mem _ hz)) with e | e
        · subst e; exact absurd (hb1 z hz) (irr _)
        · exact e
/-- An element laid where it belongs. -/
theorem ins_pw (tr : ∀ {x y z}, R x y → R y z → R x z) {out : List α} {v : α} {j : Nat} (hs : out.Pairwise R) (hj : j ≤ out.length) (hlt : ∀ q (h : q < out.length), q < j → R out[q] v) (hgt : ∀ h : j < out.length, R v out[j]) :
    (out.take j ++ [v] ++ out.drop j).Pairwise R := by
  have h1 : ∀ x, x ∈ out.take j → R x v := by
    intro x hx
    obtain ⟨q, hq, rfl⟩ := List.getElem_of_mem hx
    rw [List.length_take] at hq
    rw [List.getElem_take]
    exact hlt q (by omega) (by omega)
  have h2 : ∀ x, x ∈ out.drop j → R v x := by
    intro x hx
    obtain ⟨q, hq, rfl⟩ := List.getElem_of_mem hx
    rw [List.length_drop] at hq
    rw [List.getElem_drop]
    rcases Nat.eq_zero_or_pos q with e | e
    · subst e
      exact hgt (by omega)
    · exact tr (hgt (by omega)) (List.pairwise_iff_getElem.1 hs j (j + q) (by omega) (by omega) (by omega))
  have h3 : (out.take j ++ out.drop j).Pairwise R := by rw [List.take_append_drop]; exact hs
  obtain ⟨p1, p2, p3⟩ := List.pairwise_append.1 h3
  refine List.pairwise_append.2 ⟨List.pairwise_append.2 ⟨p1, List.pairwise_singleton _ _, fun x hx y hy => ?_⟩, p2, fun x hx y hy => ?_⟩
  · rw [List.mem_singleton.1 hy]
    exact h1 x hx
  · rcases List.mem_append.1 hx with h | h
    · exact p3 x h y hy
    · rw [List.mem_singleton.1 h]
      exact h2 y hy
theorem ins_mem {out : List α} {v : α} {j : Nat} (x : α) : x ∈ out.take j ++ [v] ++ out.drop j ↔ x ∈ out ∨ x = v := by
  have hm0 : x ∈ out ↔ x ∈ out.take j ∨ x ∈ out.drop j := by
    conv => lhs; rw [← List.take_append_drop j out]
    exact List.mem_append
  simp only [List.mem_append, List.mem_singleton, hm0]
  constructor
  · rintro ((h | h) | h)
    · exact .inl (.inl h)
    · exact .inr h
    · exact .inl (.inr h)
  · rintro ((h | h) | h)
    · exact .inl (.inl h)
    · exact .inr h
    · exact .inl (.inr h)
theorem compact_gen [Inhabited α] [DecidableEq α] (tot : ∀ x y, ¬ R x y → ¬ R y x → x = y) (d : Array α) (h : ∀ i j, i ≤ j → j < d.size → ¬ R d[j]! d[i]!) : ∀ m, m ≤ d.size →
    (compactUpTo d m).Pairwise R ∧ (∀ x, x ∈ compactUpTo d m ↔ ∃ j, j < m ∧ d[j]! = x) := by
  intro m
  induction m with
  | zero => exact fun _ => ⟨List.Pairwise.nil, fun x => ⟨fun hx => by simp [compactUpTo] at hx, fun ⟨j, hj, _⟩ => absurd hj (by omega)⟩⟩
  | succ m ih =>
    intro hm
    obtain ⟨h1, h2⟩ := ih (by omega)
    rw [compactUpTo_succ]
    by_cases hk : keeps d m = true
    · rw [if_pos hk]
      refine ⟨List.pairwise_append.2 ⟨h1, List.pairwise_singleton _ _, fun x hx y hy => ?_⟩, fun x => ?_⟩
      · obtain ⟨j, hj, rfl⟩ := (h2 x).1 hx
        have := List.mem_singleton.1 hy
        subst this
        have h0 : m ≠ 0 := by omega
        have hne : d[m]! ≠ d[m - 1]! := by simpa [keeps, h0] using hk
        rcases Classical.em (R d[j]! d[m]!) with hr | hr
        · exact hr
        · exfalso
          have e := tot _ _ hr (h j m (by omega) (by omega))
          have e1 := h j (m - 1) (by omega) (by omega)
          have e2 := h (m - 1) m (by omega) (by omega)
          rw [← e] at e2
          exact hne (e.symm.trans (tot _ _ e1 e2).symm)
      · rw [List.mem_append, h2, List.mem_singleton]
        constructor
        · rintro (⟨j, hj, rfl⟩ | rfl)
          · exact ⟨j, by omega, rfl⟩
          · exact ⟨m, by omega, rfl⟩
        · rintro ⟨j, hj, rfl⟩
          rcases Nat.lt_or_ge j m with hlt | hge
          · exact .inl ⟨j, hlt, rfl⟩
          · exact .inr (by rw [show j = m by omega])
    · rw [if_neg hk, List.append_nil]
      refine ⟨h1, fun x => (h2 x).trans ⟨fun ⟨j, hj, e⟩ => ⟨j, by omega, e⟩, fun ⟨j, hj, e⟩ => ?_⟩⟩
      rcases Nat.lt_or_ge j m with hlt | hge
      · exact ⟨j, hlt, e⟩
      · have hjm : j = m := by omega
        subst hjm
        have h0 : j ≠ 0 ∧ d[j]! = d[j - 1]! := by simpa [keeps] using hk
        exact ⟨j - 1, by omega, h0.2.symm.trans e⟩
end
/-! ### Ids -/
theorem leI_eq (x y : S23) : leI x y = true ↔ ¬ ltP y x := by
  unfold leI
  rw [ltOf_eq]
  simp
theorem setT_facts (l : List S23) : (setT l).Pairwise ltP ∧ ∀ x, x ∈ setT l ↔ x ∈ l := by
  have hs := List.pairwise_mergeSort (le := leI) (fun a b c h1 h2 => by
    rw [leI_eq] at *
    have h3 := swoI.ntrans c b a (by rw [ltOf_eq]; simpa using h2) (by rw [ltOf_eq]; simpa using h1)
    rw [ltOf_eq] at h3
    simpa using h3) (fun a b => by
    rw [Bool.or_eq_true, leI_eq, leI_eq]
    by_cases c : ltP b a
    · exact .inr (fun h => ltP_irrefl _ (ltP_trans c h))
    · exact .inl c) l
  obtain ⟨s, hsd⟩ : ∃ s, l.mergeSort leI = s := ⟨_, rfl⟩
  have hp := List.mergeSort_perm l leI
  rw [hsd] at hs hp
  have hg : ∀ i j, i ≤ j → j < s.toArray.size → ¬ ltP s.toArray[j]! s.toArray[i]! := by
    intro i j hij hj
    rcases Nat.lt_or_ge i j with hlt | hge
    · have h1 := List.pairwise_iff_getElem.1 hs i j (by simp at hj; omega) (by simpa using hj) hlt
      rw [leI_eq] at h1
      rw [getElem!_pos s.toArray i (by omega), getElem!_pos s.toArray j hj]
      simpa using h1
    · have : i = j := by omega
      subst this
      exact ltP_irrefl _
  have h := compact_gen (R := ltP) (fun x y h1 h2 => ltP_total h1 h2) s.toArray hg s.length (by simp)
  have e : setT l = compactUpTo s.toArray s.length := by unfold setT; rw [hsd]; rfl
  rw [e]
  refine ⟨h.1, fun x => ?_⟩
  rw [h.2, ← hp.mem_iff]
  constructor
  · rintro ⟨j, hj, rfl⟩
    rw [getElem!_pos s.toArray j (by simpa using hj)]
    simp
  · intro hx
    obtain ⟨j, hj, e⟩ := List.getElem_of_mem hx
    exact ⟨j, hj, by rw [getElem!_pos s.toArray j (by simpa using hj)]; simpa using e⟩
theorem setT_of {l r : List S23} (hr : r.Pairwise ltP) (h : ∀ x, x ∈ r ↔ x ∈ l) : r = setT l :=
  pw_ext ltP_irrefl (fun h1 h2 => ltP_trans h1 h2) hr (setT_facts l).1 fun x => (h x).trans ((setT_facts l).2 x).symm
/-! ### Names -/
def ltB (x y : ByteArray) : Prop := bs x < bs y
theorem ltB_trans {x y z : ByteArray} (h1 : ltB x y) (h2 : ltB y z) : ltB x z := List.lt_trans h1 h2
theorem ltB_total {x y : ByteArray} (h1 : ¬ ltB x y) (h2 : ¬ ltB y x) : x = y := XIs.bs_inj (List.le_antisymm (List.not_lt.1 h2) (List.not_lt.1 h1))
theorem setL_pw (l : List ByteArray) : (setL l).Pairwise ltB := by
  have h := ESort.setL_sl l
  unfold ESort.SL ESort.SS at h
  rw [List.pairwise_map] at h
  exact h
theorem setL_of {l r : List ByteArray} (hr : r.Pairwise ltB) (h : ∀ x, x ∈ r ↔ x ∈ l) : r = setL l :=
  pw_ext (R := ltB) (fun x h => List.lt_irrefl (bs x) h) (fun h1 h2 => ltB_trans h1 h2) hr (setL_pw l) fun x => (h x).trans (ESort.mem_setL l x).symm
end Go.Proofs.Ytgbdohidlndhjaa.IsOrd
