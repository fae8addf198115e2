/- Proved: a list of texts that rises strictly is told by what it has; name.Set's list rises so, and has what the list has. No condition. -/
import Derived.Test.YtgbdohidlndhjaaEName
namespace Go.Proofs.Ytgbdohidlndhjaa.ESort
open Go.Lib
open Go.Proofs.Ytgbdohidlndhjaa.EName (bs unbs unbs_bs bs_unbs sortB setB setL)

def SS (l : List (List UInt8)) : Prop := l.Pairwise (· < ·)
theorem ss_ext : ∀ {a b : List (List UInt8)}, SS a → SS b → (∀ x, x ∈ a ↔ x ∈ b) → a = b := by
  intro a
  induction a with
  | nil =>
    intro b _ _ h
    cases b with
    | nil => rfl
    | cons y b => exact absurd ((h y).2 (List.mem_cons_self)) (by simp)
  | cons x a ih =>
    intro b ha hb h
    cases b with
    | nil => exact absurd ((h x).1 (List.mem_cons_self)) (by simp)
    | cons y b =>
      obtain ⟨ha1, ha2⟩ := List.pairwise_cons.1 ha
      obtain ⟨hb1, hb2⟩ := List.pairwise_cons.1 hb
      have hxy : x = y := by
        rcases List.mem_cons.1 ((h x).1 List.mem_cons_self) with e | e
        · exact e
        · rcases List.mem_cons.1 ((h y).2 List.mem_cons_self) with e2 | e2
          · exact e2.symm
          · exact absurd (List.lt_trans (hb1 x e) (ha1 y e2)) (List.lt_irrefl _)
      subst hxy
      refine congrArg _ (ih ha2 hb2 fun z => ⟨fun hz => ?_, fun hz => ?_⟩)
      · rcases List.mem_cons.1 ((h z).1 (List.mem_cons_of_mem _ hz)) with e | e
        · subst e; exact absurd (ha1 z hz) (List.lt_irrefl _)
        · exact e
      · rcases List.mem_cons.1 ((h z).2 (List.mem_cons_of_mem _ hz)) with e | e
        · subst e; exact absurd (hb1 z hz) (List.lt_irrefl _)
        · exact e

theorem sorted_get {d : Array (List UInt8)} (h : d.toList.Pairwise (· ≤ ·)) : ∀ (i j : Nat), i ≤ j → j < d.size → d[i]! ≤ d[j]! := by
  intro i j hij hj
  rcases Nat.lt_or_ge i j with hlt | hge
  · have h1 := List.pairwise_iff_getElem.1 h i j (by simp; omega) (by simpa using hj) hlt
    rw [getElem!_pos d i (by omega), getElem!_pos d j hj]
    simpa using h1
  · have : i = j := by omega
    subst this
    exact List.le_refl _

theorem compact_facts (d : Array (List UInt8)) (h : d.toList.Pairwise (· ≤ ·)) : ∀ m, m ≤ d.size →
    SS (compactUpTo d m) ∧ (∀ x, x ∈ compactUpTo d m ↔ ∃ j, j < m ∧ d[j]! = x) := by
  intro m
  induction m with
  | zero => exact fun _ => ⟨List.Pairwise.nil, fun x => ⟨fun hx => by simp [compactUpTo] at hx, fun ⟨j, hj, _⟩ => absurd hj (by omega)⟩⟩
  | succ m ih =>
    intro hm
    obtain ⟨h1, h2⟩ := ih (by omega)
    rw [compactUpTo_succ]
    by_cases hk : keeps d m = true
    · rw [if_pos hk]
      refine ⟨List.pairwise_append.2 ⟨h1, List.pairwise_singleton _ _, fun x hx y hy => ?_⟩, fun x => ?_⟩
      · obtain ⟨j, hj, rfl⟩ := (h2 x).1 hx
        have := List.mem_singleton.1 hy
        subst this
        have h0 : m ≠ 0 := by omega
        have hne : d[m]! ≠ d[m - 1]! := by simpa [keeps, h0] using hk
        have hl1 := sorted_get h j (m - 1) (by omega) (by omega)
        have hl2 := sorted_get h (m - 1) m (by omega) (by omega)
        refine List.lt_of_le_of_lt hl1 ?_
        rcases Classical.em (d[m - 1]! < d[m]!) with hlt | hlt
        · exact hlt
        · exact absurd (List.le_antisymm (List.not_lt.1 hlt) hl2) hne
      · rw [List.mem_append, h2, List.mem_singleton]
        constructor
        · rintro (⟨j, hj, rfl⟩ | rfl)
          · exact ⟨j, by omega, rfl⟩
          · exact ⟨m, by omega, rfl⟩
        · rintro ⟨j, hj, rfl⟩
          rcases Nat.lt_or_ge j m with hlt | hge
          · exact .inl ⟨j, hlt, rfl⟩
          · exact .inr (by rw [show j = m by omega])
    · rw [if_neg hk, List.append_nil]
      refine ⟨h1, fun x => (h2 x).trans ⟨fun ⟨j, hj, e⟩ => ⟨j, by omega, e⟩, fun ⟨j, hj, e⟩ => ?_⟩⟩
      rcases Nat.lt_or_ge j m with hlt | hge
      · exact ⟨j, hlt, e⟩
      · have hjm : j = m := by omega
        subst hjm
        have h0 : j ≠ 0 ∧ d[j]! = d[j - 1]! := by simpa [keeps] using hk
        exact ⟨j - 1, by omega, h0.2.symm.trans e⟩

theorem sortB_sorted (l : List (List UInt8)) : (sortB l).Pairwise (· ≤ ·) := by
  have h := List.pairwise_mergeSort (le := fun x y : List UInt8 => decide (x ≤ y)) (fun a b c h1 h2 => by simp at h1 h2 ⊢; exact List.le_trans h1 h2) (fun a b => by simp; exact List.le_total a b) l
  exact h.imp (fun h => by simpa using h)
theorem setB_facts (l : List ByteArray) : SS (setB l) ∧ ∀ x, x ∈ setB l ↔ x ∈ l.map bs := by
  have h := compact_facts (sortB (l.map bs)).toArray (by simpa using sortB_sorted (l.map bs)) (sortB (l.map bs)).length (by simp)
  refine ⟨h.1, fun x => ?_⟩
  show x ∈ compactUpTo (sortB (l.map bs)).toArray (sortB (l.map bs)).length ↔ _
  rw [h.2, ← (List.mergeSort_perm (l.map bs) (fun x y => decide (x ≤ y))).mem_iff]
  show _ ↔ x ∈ sortB (l.map bs)
  constructor
  · rintro ⟨j, hj, rfl⟩
    rw [getElem!_pos _ _ (by simpa using hj)]
    simp
  · intro hx
    obtain ⟨j, hj, e⟩ := List.getElem_of_mem hx
    exact ⟨j, hj, by rw [getElem!_pos _ _ (by simpa using hj)]; simpa using e⟩

/-- The same of texts. -/
def SL (l : List ByteArray) : Prop := SS (l.map bs)
theorem bs_inj {a b : ByteArray} (h : bs a = bs b) : a = b := by rw [← unbs_bs a, h, unbs_bs]
theorem sl_ext {a b : List ByteArray} (ha : SL a) (hb : SL b) (h : ∀ x, x ∈ a ↔ x ∈ b) : a = b := by
  have h2 := ss_ext ha hb (fun x => by
    simp only [List.mem_map]
    exact ⟨fun ⟨y, hy, e⟩ => ⟨y, (h y).1 hy, e⟩, fun ⟨y, hy, e⟩ => ⟨y, (h y).2 hy, e⟩⟩)
  have h3 := congrArg (List.map unbs) h2
  simpa [List.map_map, Function.comp_def, unbs_bs] using h3
theorem setL_sl (l : List ByteArray) : SL (setL l) := by
  show SS ((setL l).map bs)
  rw [show (setL l).map bs = setB l by simp [setL, List.map_map, Function.comp_def, bs_unbs]]
  exact (setB_facts l).1
theorem mem_setL (l : List ByteArray) (x : ByteArray) : x ∈ setL l ↔ x ∈ l := by
  constructor
  · intro h
    obtain ⟨y, hy, rfl⟩ := List.mem_map.1 h
    obtain ⟨z, hz, rfl⟩ := List.mem_map.1 (((setB_facts l).2 y).1 hy)
    rw [unbs_bs]
    exact hz
  · intro h
    exact List.mem_map.2 ⟨bs x, ((setB_facts l).2 _).2 (List.mem_map_of_mem h), unbs_bs x⟩
theorem filter_sl {l : List ByteArray} (h : SL l) (p : ByteArray → Bool) : SL (l.filter p) := by
  unfold SL SS at *
  rw [List.pairwise_map] at *
  exact h.filter p
theorem toList_data (s : ByteArray) : s.toList = s.data.toList := by
  obtain ⟨⟨l⟩⟩ := s
  simp
theorem toList_inj {a b : ByteArray} : a.toList = b.toList ↔ a = b := by
  rw [toList_data, toList_data]
  exact ⟨fun h => bs_inj h, fun h => by rw [h]⟩
theorem toList_bs (a : ByteArray) : a.toList = bs a := toList_data a
theorem setL_of {l r : List ByteArray} (hr : SL r) (h : ∀ x, x ∈ r ↔ x ∈ l) : r = setL l := sl_ext hr (setL_sl l) fun x => (h x).trans (mem_setL l x).symm
theorem setL_filter (l : List ByteArray) (p : ByteArray → Bool) : (setL l).filter p = setL (l.filter p) :=
  setL_of (filter_sl (setL_sl l) p) fun x => by simp only [List.mem_filter, mem_setL]
end Go.Proofs.Ytgbdohidlndhjaa.ESort
