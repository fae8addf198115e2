/- Proved: plain facts on hunks: what they make of a list, what takes them back, and which ones the walk through two lists tells. No program in sight. -/
import Derived.Test.YtnegeacpfkcecaaXDiffx0
namespace Go.Proofs.Ytnegeacpfkcecaa.DiffSpec
open Go.Proofs.Ytnegeacpfkcecaa.XDiff
abbrev L := List ByteArray
theorem toList_data (s : ByteArray) : s.toList = s.data.toList := by
  obtain ⟨⟨l⟩⟩ := s
  simp
theorem toList_inj {a b : ByteArray} : a.toList = b.toList ↔ a = b := by
  rw [toList_data, toList_data]
  refine ⟨fun h => ?_, fun h => by rw [h]⟩
  obtain ⟨⟨x⟩⟩ := a
  obtain ⟨⟨y⟩⟩ := b
  simp only at h
  rw [h]

/-- The most that is alike. -/
def lcs : L → L → Nat
  | [], _ => 0
  | _ :: _, [] => 0
  | x :: a, y :: b => if x = y then lcs a b + 1 else max (lcs a (y :: b)) (lcs (x :: a) b)
termination_by a b => a.length + b.length
theorem lcs_nil_left (b : L) : lcs [] b = 0 := by unfold lcs; rfl
theorem lcs_nil_right (a : L) : lcs a [] = 0 := by cases a <;> unfold lcs <;> rfl
theorem lcs_cons (x y : ByteArray) (a b : L) : lcs (x :: a) (y :: b) = if x = y then lcs a b + 1 else max (lcs a (y :: b)) (lcs (x :: a) b) := by rw [lcs]
theorem lcs_le : ∀ (n : Nat) (a b : L), a.length + b.length ≤ n → lcs a b ≤ a.length ∧ lcs a b ≤ b.length
  | 0, a, b, h => by
    have ha : a = [] := List.eq_nil_of_length_eq_zero (by omega)
    subst ha
    simp [lcs_nil_left]
  | n + 1, [], b, h => by simp [lcs_nil_left]
  | n + 1, x :: a, [], h => by simp [lcs_nil_right]
  | n + 1, x :: a, y :: b, h => by
    simp only [List.length_cons] at h
    rw [lcs_cons]
    split
    · have := lcs_le n a b (by omega)
      simp only [List.length_cons]
      omega
    · have h1 := lcs_le n a (y :: b) (by simp only [List.length_cons]; omega)
      have h2 := lcs_le n (x :: a) b (by simp only [List.length_cons]; omega)
      simp only [List.length_cons] at *
      omega

def addO (c : Option S66) (i : Nat) (x : ByteArray) : S66 := match c with
  | none => ⟨i, [x], []⟩
  | some h => ⟨h.f0, h.f1 ++ [x], h.f2⟩
def addN (c : Option S66) (i : Nat) (y : ByteArray) : S66 := match c with
  | none => ⟨i, [], [y]⟩
  | some h => ⟨h.f0, h.f1, h.f2 ++ [y]⟩
/-- The walk through what is left of both lists, from place i of the first one on; c: the hunk that is being told. -/
def hk : L → L → Nat → Option S66 → List S66
  | [], [], _, c => c.toList
  | x :: a, [], i, c => hk a [] (i + 1) (some (addO c i x))
  | [], y :: b, i, c => hk [] b i (some (addN c i y))
  | x :: a, y :: b, i, c =>
    if x = y then c.toList ++ hk a b (i + 1) none
    else if lcs a (y :: b) ≥ lcs (x :: a) b then hk a (y :: b) (i + 1) (some (addO c i x)) else hk (x :: a) b i (some (addN c i y))
termination_by a b => a.length + b.length

/-- What hunks make of what is left of a list from place s on. -/
def appl : Nat → L → List S66 → Option L
  | _, a, [] => some a
  | s, a, h :: l =>
    if (s : Int) ≤ h.f0 ∧ h.f0.toNat - s ≤ a.length ∧ (a.drop (h.f0.toNat - s)).take h.f1.length = h.f1 then
      (appl (h.f0.toNat + h.f1.length) (a.drop (h.f0.toNat - s + h.f1.length)) l).map (fun r => a.take (h.f0.toNat - s) ++ h.f2 ++ r)
    else none
/-- May hunks be, behind p? -/
def chk : Option S66 → List S66 → Bool
  | _, [] => true
  | p, h :: l => decide (0 ≤ h.f0) && decide (0 < h.f1.length + h.f2.length) && (match p with | none => true | some q => decide (h.f0 - (q.f1.length : Int) > q.f0)) && chk (some h) l
/-- What takes hunks back. -/
def inv : Int → List S66 → List S66
  | _, [] => []
  | d, h :: l => ⟨h.f0 + d, h.f2, h.f1⟩ :: inv (d + ((h.f2.length : Int) - (h.f1.length : Int))) l

theorem appl_inv : ∀ (l : List S66) (s s' : Nat) (d : Int) (a b : L), (s' : Int) = s + d → appl s a l = some b → appl s' b (inv d l) = some a
  | [], s, s', d, a, b, hs, h => by
    simp only [appl] at h
    simp only [inv, appl]
    exact h.symm
  | x :: l, s, s', d, a, b, hs, h => by
    simp only [appl] at h
    split at h
    case isFalse => cases h
    rename_i hc
    obtain ⟨h1, h2, h3⟩ := hc
    obtain ⟨r, hr, hb⟩ := Option.map_eq_some_iff.1 h
    subst hb
    have e1 : (x.f0 + d).toNat - s' = x.f0.toNat - s := by omega
    have e2 : (a.take (x.f0.toNat - s)).length = x.f0.toNat - s := by rw [List.length_take]; omega
    have ih := appl_inv l (x.f0.toNat + x.f1.length) ((x.f0 + d).toNat + x.f2.length) (d + ((x.f2.length : Int) - (x.f1.length : Int))) _ r (by omega) hr
    simp only [inv, appl, e1]
    have e3 : (a.take (x.f0.toNat - s) ++ x.f2 ++ r).drop (x.f0.toNat - s) = x.f2 ++ r := by
      rw [List.append_assoc, List.drop_append_of_le_length (by omega), List.drop_of_length_le (by omega), List.nil_append]
    have e4 : (a.take (x.f0.toNat - s) ++ x.f2 ++ r).drop (x.f0.toNat - s + x.f2.length) = r := by
      rw [← List.drop_drop, e3, List.drop_left]
    have e5 : (a.take (x.f0.toNat - s) ++ x.f2 ++ r).take (x.f0.toNat - s) = a.take (x.f0.toNat - s) := by
      rw [List.append_assoc, List.take_append_of_le_length (by omega), List.take_of_length_le (by omega)]
    rw [if_pos ⟨by omega, by simp only [List.length_append]; omega, by rw [e3, List.take_left]⟩, e4, ih, e5, Option.map_some]
    congr 1
    rw [List.append_assoc, ← h3]
    conv => rhs; rw [← List.take_append_drop (x.f0.toNat - s) a]
    rw [h3]
    congr 1
    rw [← List.drop_drop]
    conv => rhs; rw [← List.take_append_drop x.f1.length (a.drop (x.f0.toNat - s)), h3]
theorem inv_inv : ∀ (l : List S66) (d : Int), inv (-d) (inv d l) = l
  | [], d => rfl
  | x :: l, d => by
    simp only [inv]
    have e : (-d + ((x.f1.length : Int) - (x.f2.length : Int))) = -(d + ((x.f2.length : Int) - (x.f1.length : Int))) := by omega
    rw [e, inv_inv l]
    obtain ⟨f0, f1, f2⟩ := x
    simp
    omega
theorem inv_length : ∀ (l : List S66) (d : Int), (inv d l).length = l.length
  | [], _ => rfl
  | x :: l, d => by simp only [inv, List.length_cons, inv_length l]
theorem chk_cons (p : Option S66) (h : S66) (l : List S66) : chk p (h :: l) = true ↔ 0 ≤ h.f0 ∧ 0 < h.f1.length + h.f2.length ∧ (∀ q, p = some q → h.f0 - (q.f1.length : Int) > q.f0) ∧ chk (some h) l = true := by
  simp only [chk, Bool.and_eq_true, decide_eq_true_eq]
  cases p with
  | none => simp [and_assoc]
  | some q => simp [and_assoc]
theorem chk_inv : ∀ (l : List S66) (d : Int) (p p' : Option S66), (∀ h, l.head? = some h → 0 ≤ h.f0 → p = none → 0 ≤ h.f0 + d) →
    (∀ q', p' = some q' → ∃ q d0, p = some q ∧ q' = ⟨q.f0 + d0, q.f2, q.f1⟩ ∧ d = d0 + ((q.f2.length : Int) - (q.f1.length : Int)) ∧ 0 ≤ q'.f0) → (p = none ↔ p' = none) → chk p l = true → chk p' (inv d l) = true
  | [], d, p, p', _, _, _, _ => rfl
  | x :: l, d, p, p', h0, hp, hn, hc => by
    rw [chk_cons] at hc
    obtain ⟨c1, c2, c3, c4⟩ := hc
    have hpos : 0 ≤ x.f0 + d := by
      cases hq : p with
      | none => exact h0 x rfl c1 hq
      | some q =>
        obtain ⟨q', hq'⟩ := Option.ne_none_iff_exists'.1 (fun e => by rw [hn.2 e] at hq; cases hq)
        obtain ⟨q1, d0, e1, e2, e3, e4⟩ := hp q' hq'
        rw [hq] at e1
        obtain rfl := Option.some.inj e1
        have := c3 _ hq
        subst e2
        simp only at e4
        omega
    simp only [inv]
    rw [chk_cons]
    refine ⟨hpos, by simp only; omega, ?_, ?_⟩
    · intro q' hq'
      obtain ⟨q1, d0, e1, e2, e3, e4⟩ := hp q' hq'
      have := c3 _ e1
      subst e2
      simp only
      omega
    · refine chk_inv l _ (some x) _ (fun h _ _ e => by cases e) (fun q' hq' => ?_) (by simp) c4
      obtain rfl := Option.some.inj hq'
      exact ⟨x, d, rfl, rfl, rfl, hpos⟩
theorem chk_inv0 (l : List S66) (h : chk none l = true) : chk none (inv 0 l) = true := chk_inv l 0 none none (fun h _ h1 _ => by omega) (fun q' e => by cases e) (by simp) h
/-- One hunk, and what follows. -/
theorem appl_step {s : Nat} {pre rest r : L} {h : S66} {l : List S66} (h0 : 0 ≤ h.f0) (hs : s + pre.length = h.f0.toNat) (hr : appl (h.f0.toNat + h.f1.length) rest l = some r) : appl s (pre ++ h.f1 ++ rest) (h :: l) = some (pre ++ h.f2 ++ r) := by
  have e1 : h.f0.toNat - s = pre.length := by omega
  simp only [appl, e1]
  have e3 : (pre ++ h.f1 ++ rest).drop pre.length = h.f1 ++ rest := by rw [List.append_assoc, List.drop_left]
  rw [if_pos ⟨by omega, by simp only [List.length_append]; omega, by rw [e3, List.take_left]⟩, ← List.drop_drop, e3, List.drop_left, hr, Option.map_some, List.append_assoc pre h.f1 rest, List.take_left]
theorem hk_appl : ∀ (n : Nat) (a b : L), a.length + b.length ≤ n → ∀ (i : Nat),
    (∀ (s : Nat) (pre : L), s + pre.length = i → appl s (pre ++ a) (hk a b i none) = some (pre ++ b)) ∧
    (∀ (h : S66) (s : Nat) (pre : L), 0 ≤ h.f0 → s + pre.length = h.f0.toNat → h.f0.toNat + h.f1.length = i → appl s (pre ++ h.f1 ++ a) (hk a b i (some h)) = some (pre ++ h.f2 ++ b))
  | n, [], [], hn, i => by
    refine ⟨fun s pre hs => ?_, fun h s pre h0 hs hi => ?_⟩
    · rw [hk]; rfl
    · rw [hk]
      exact appl_step h0 hs rfl
  | 0, x :: a, b, hn, i => by simp at hn
  | 0, [], y :: b, hn, i => by simp at hn
  | n + 1, x :: a, [], hn, i => by
    simp only [List.length_cons, List.length_nil] at hn
    have ih := hk_appl n a [] (by simp only [List.length_nil]; omega) (i + 1)
    refine ⟨fun s pre hs => ?_, fun h s pre h0 hs hi => ?_⟩
    · rw [hk]
      have := ih.2 ⟨(i : Int), [x], []⟩ s pre (by simp) (by simpa using hs) (by simp)
      simpa [addO] using this
    · rw [hk]
      have := ih.2 ⟨h.f0, h.f1 ++ [x], h.f2⟩ s pre h0 hs (by simp only [List.length_append, List.length_singleton]; omega)
      simpa [addO, List.append_assoc] using this
  | n + 1, [], y :: b, hn, i => by
    simp only [List.length_cons, List.length_nil] at hn
    have ih := hk_appl n [] b (by simp only [List.length_nil]; omega) i
    refine ⟨fun s pre hs => ?_, fun h s pre h0 hs hi => ?_⟩
    · rw [hk]
      have := ih.2 ⟨(i : Int), [], [y]⟩ s pre (by simp) (by simpa using hs) (by simp)
      simpa [addN] using this
    · rw [hk]
      have := ih.2 ⟨h.f0, h.f1, h.f2 ++ [y]⟩ s pre h0 hs hi
      simpa [addN, List.append_assoc] using this
  | n + 1, x :: a, y :: b, hn, i => by
    simp only [List.length_cons] at hn
    by_cases he : x = y
    · subst he
      have ih := hk_appl n a b (by omega) (i + 1)
      refine ⟨fun s pre hs => ?_, fun h s pre h0 hs hi => ?_⟩
      · rw [hk, if_pos rfl]
        have := ih.1 s (pre ++ [x]) (by simp only [List.length_append, List.length_singleton]; omega)
        simpa [List.append_assoc] using this
      · rw [hk, if_pos rfl]
        have h1 := ih.1 i [x] (by simp)
        have := appl_step (s := s) (pre := pre) (rest := x :: a) (r := x :: b) (h := h) (l := hk a b (i + 1) none) h0 hs (by rw [hi]; exact h1)
        exact this
    · have e : ∀ c, hk (x :: a) (y :: b) i c = if lcs a (y :: b) ≥ lcs (x :: a) b then hk a (y :: b) (i + 1) (some (addO c i x)) else hk (x :: a) b i (some (addN c i y)) := by
        intro c
        rw [hk, if_neg he]
      by_cases hg : lcs a (y :: b) ≥ lcs (x :: a) b
      · have ih := hk_appl n a (y :: b) (by simp only [List.length_cons]; omega) (i + 1)
        refine ⟨fun s pre hs => ?_, fun h s pre h0 hs hi => ?_⟩
        · rw [e, if_pos hg]
          have := ih.2 ⟨(i : Int), [x], []⟩ s pre (by simp) (by simpa using hs) (by simp)
          simpa [addO] using this
        · rw [e, if_pos hg]
          have := ih.2 ⟨h.f0, h.f1 ++ [x], h.f2⟩ s pre h0 hs (by simp only [List.length_append, List.length_singleton]; omega)
          simpa [addO, List.append_assoc] using this
      · have ih := hk_appl n (x :: a) b (by simp only [List.length_cons]; omega) i
        refine ⟨fun s pre hs => ?_, fun h s pre h0 hs hi => ?_⟩
        · rw [e, if_neg hg]
          have := ih.2 ⟨(i : Int), [], [y]⟩ s pre (by simp) (by simpa using hs) (by simp)
          simpa [addN] using this
        · rw [e, if_neg hg]
          have := ih.2 ⟨h.f0, h.f1, h.f2 ++ [y]⟩ s pre h0 hs hi
          simpa [addN, List.append_assoc] using this
theorem hk_chk : ∀ (n : Nat) (a b : L), a.length + b.length ≤ n → ∀ (i : Nat) (p : Option S66),
    ((∀ q, p = some q → q.f0 + (q.f1.length : Int) < i) → chk p (hk a b i none) = true) ∧
    (∀ (h : S66), 0 ≤ h.f0 → 0 < h.f1.length + h.f2.length → h.f0 + (h.f1.length : Int) = i → (∀ q, p = some q → q.f0 + (q.f1.length : Int) < h.f0) → chk p (hk a b i (some h)) = true)
  | n, [], [], hn, i, p => by
    refine ⟨fun hp => ?_, fun h h0 h1 hi hp => ?_⟩
    · rw [hk]; rfl
    · rw [hk]
      exact (chk_cons _ _ _).2 ⟨h0, h1, fun q hq => by have := hp q hq; omega, rfl⟩
  | 0, x :: a, b, hn, i, p => by simp at hn
  | 0, [], y :: b, hn, i, p => by simp at hn
  | n + 1, x :: a, [], hn, i, p => by
    simp only [List.length_cons, List.length_nil] at hn
    have ih := hk_chk n a [] (by simp only [List.length_nil]; omega) (i + 1) p
    refine ⟨fun hp => ?_, fun h h0 h1 hi hp => ?_⟩
    · rw [hk]; exact ih.2 ⟨(i : Int), [x], []⟩ (by simp) (by simp) (by simp) hp
    · rw [hk]; exact ih.2 ⟨h.f0, h.f1 ++ [x], h.f2⟩ h0 (by simp only [List.length_append, List.length_singleton]; omega) (by simp only [List.length_append, List.length_singleton]; omega) hp
  | n + 1, [], y :: b, hn, i, p => by
    simp only [List.length_cons, List.length_nil] at hn
    have ih := hk_chk n [] b (by simp only [List.length_nil]; omega) i p
    refine ⟨fun hp => ?_, fun h h0 h1 hi hp => ?_⟩
    · rw [hk]; exact ih.2 ⟨(i : Int), [], [y]⟩ (by simp) (by simp) (by simp) hp
    · rw [hk]; exact ih.2 ⟨h.f0, h.f1, h.f2 ++ [y]⟩ h0 (by simp only [List.length_append, List.length_singleton]; omega) hi hp
  | n + 1, x :: a, y :: b, hn, i, p => by
    simp only [List.length_cons] at hn
    by_cases he : x = y
    · subst he
      refine ⟨fun hp => ?_, fun h h0 h1 hi hp => ?_⟩
      · rw [hk, if_pos rfl]
        exact (hk_chk n a b (by omega) (i + 1) p).1 (fun q hq => by have := hp q hq; omega)
      · rw [hk, if_pos rfl]
        exact (chk_cons _ _ _).2 ⟨h0, h1, fun q hq => by have := hp q hq; omega, (hk_chk n a b (by omega) (i + 1) (some h)).1 (fun q hq => by obtain rfl := Option.some.inj hq; omega)⟩
    · have e : ∀ c, hk (x :: a) (y :: b) i c = if lcs a (y :: b) ≥ lcs (x :: a) b then hk a (y :: b) (i + 1) (some (addO c i x)) else hk (x :: a) b i (some (addN c i y)) := by
        intro c
        rw [hk, if_neg he]
      by_cases hg : lcs a (y :: b) ≥ lcs (x :: a) b
      · have ih := hk_chk n a (y :: b) (by simp only [List.length_cons]; omega) (i + 1) p
        refine ⟨fun hp => ?_, fun h h0 h1 hi hp => ?_⟩
        · rw [e, if_pos hg]; exact ih.2 ⟨(i : Int), [x], []⟩ (by simp) (by simp) (by simp) hp
        · rw [e, if_pos hg]; exact ih.2 ⟨h.f0, h.f1 ++ [x], h.f2⟩ h0 (by simp only [List.length_append, List.length_singleton]; omega) (by simp only [List.length_append, List.length_singleton]; omega) hp
      · have ih := hk_chk n (x :: a) b (by simp only [List.length_cons]; omega) i p
        refine ⟨fun hp => ?_, fun h h0 h1 hi hp => ?_⟩
        · rw [e, if_neg hg]; exact ih.2 ⟨(i : Int), [], [y]⟩ (by simp) (by simp) (by simp) hp
        · rw [e, if_neg hg]; exact ih.2 ⟨h.f0, h.f1, h.f2 ++ [y]⟩ h0 (by simp only [List.length_append, List.length_singleton]; omega) hi hp
def sumO (l : List S66) : Nat := (l.map fun h => h.f1.length).sum
def sumN (l : List S66) : Nat := (l.map fun h => h.f2.length).sum
theorem sumO_cons (h : S66) (l : List S66) : sumO (h :: l) = h.f1.length + sumO l := by simp [sumO]
theorem sumN_cons (h : S66) (l : List S66) : sumN (h :: l) = h.f2.length + sumN l := by simp [sumN]
theorem sumO_app (l m : List S66) : sumO (l ++ m) = sumO l + sumO m := by simp [sumO]
theorem sumN_app (l m : List S66) : sumN (l ++ m) = sumN l + sumN m := by simp [sumN]
theorem hk_size : ∀ (n : Nat) (a b : L), a.length + b.length ≤ n → ∀ (i : Nat) (c : Option S66),
    sumO (hk a b i c) + lcs a b = sumO c.toList + a.length ∧ sumN (hk a b i c) + lcs a b = sumN c.toList + b.length
  | n, [], [], hn, i, c => by rw [hk, lcs_nil_left]; exact ⟨rfl, rfl⟩
  | 0, x :: a, b, hn, i, c => by simp at hn
  | 0, [], y :: b, hn, i, c => by simp at hn
  | n + 1, x :: a, [], hn, i, c => by
    simp only [List.length_cons, List.length_nil] at hn
    have ih := hk_size n a [] (by simp only [List.length_nil]; omega) (i + 1) (some (addO c i x))
    rw [hk, lcs_nil_right]
    rw [lcs_nil_right] at ih
    cases c <;> simp [addO, sumO, sumN] at * <;> omega
  | n + 1, [], y :: b, hn, i, c => by
    simp only [List.length_cons, List.length_nil] at hn
    have ih := hk_size n [] b (by simp only [List.length_nil]; omega) i (some (addN c i y))
    rw [hk, lcs_nil_left]
    rw [lcs_nil_left] at ih
    cases c <;> simp [addN, sumO, sumN] at * <;> omega
  | n + 1, x :: a, y :: b, hn, i, c => by
    simp only [List.length_cons] at hn
    by_cases he : x = y
    · have ih := hk_size n a b (by omega) (i + 1) none
      rw [hk, if_pos he, lcs_cons, if_pos he, sumO_app, sumN_app]
      simp only [Option.toList, List.length_cons] at *
      simp only [show sumO [] = 0 from rfl, show sumN [] = 0 from rfl] at ih
      omega
    · rw [hk, if_neg he, lcs_cons, if_neg he]
      by_cases hg : lcs a (y :: b) ≥ lcs (x :: a) b
      · have ih := hk_size n a (y :: b) (by simp only [List.length_cons]; omega) (i + 1) (some (addO c i x))
        rw [if_pos hg]
        cases c <;> simp [addO, sumO, sumN] at * <;> omega
      · have ih := hk_size n (x :: a) b (by simp only [List.length_cons]; omega) i (some (addN c i y))
        rw [if_neg hg]
        cases c <;> simp [addN, sumO, sumN] at * <;> omega
end Go.Proofs.Ytnegeacpfkcecaa.DiffSpec
