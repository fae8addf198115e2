/- Sorting in place, as functions from places to values. No program, no condition but those in each statement. -/
section
/- Sorting in place, as_ functions from places to values. No program, no condition but those in each statement. -/
namespace Go.Proofs.Ytefhcmkiachphaa.Sp
/-- Two places change what they hold. -/
def swF (f : Nat → Nat) (i j : Nat) : Nat → Nat := fun p => if p = i then f j else if p = j then f i else f p
/-- Two blocks of n places change what they hold. -/
def swB (f : Nat → Nat) (a b n : Nat) : Nat → Nat := fun p => if a ≤ p ∧ p < a + n then f (p - a + b) else if b ≤ p ∧ p < b + n then f (p - b + a) else f p
theorem swB_zero (f : Nat → Nat) (a b : Nat) : swB f a b 0 = f := by
  funext p; unfold swB
  rw [if_neg (by omega), if_neg (by omega)]
theorem swB_succ (f : Nat → Nat) (a b n : Nat) (h : a + n < b) : swF (swB f a b n) (a + n) (b + n) = swB f a b (n + 1) := by
  funext p
  unfold swF swB
  by_cases h1 : p = a + n
  · subst h1
    rw [if_pos rfl, if_neg (by omega), if_neg (by omega), if_pos (by omega)]
    congr 1; omega
  · rw [if_neg h1]
    by_cases h2 : p = b + n
    · subst h2
      rw [if_pos rfl, if_neg (by omega), if_neg (by omega), if_neg (by omega), if_pos (by omega)]
      congr 1; omega
    · rw [if_neg h2]
      by_cases h3 : a ≤ p ∧ p < a + n
      · rw [if_pos h3, if_pos (by omega)]
      · rw [if_neg h3]
        by_cases h4 : b ≤ p ∧ p < b + n
        · rw [if_pos h4, if_neg (by omega), if_pos (by omega)]
        · rw [if_neg h4, if_neg (by omega), if_neg (by omega)]
/-- What lies from s to m, and from m to e, change places. -/
def rotF (f : Nat → Nat) (s m e : Nat) : Nat → Nat := fun p => if s ≤ p ∧ p < s + (e - m) then f (p - s + m) else if s + (e - m) ≤ p ∧ p < e then f (p - (e - m)) else f p
theorem rot_eq (f : Nat → Nat) (m i : Nat) (h : i ≤ m) : swB f (m - i) m i = rotF f (m - i) m (m + i) := by
  funext p
  unfold swB rotF
  have e : m + i - m = i := by omega
  have e2 : m - i + i = m := by omega
  simp only [e, e2]
  by_cases h1 : m - i ≤ p ∧ p < m
  · simp only [if_pos h1]
  · simp only [if_neg h1]
    by_cases h2 : m ≤ p ∧ p < m + i
    · simp only [if_pos h2]; congr 1; omega
    · simp only [if_neg h2]
theorem rot_gt (f : Nat → Nat) (m i j : Nat) (h : i ≤ m) (hj : j < i) : rotF (swB f (m - i) m j) (m - (i - j)) m (m + j) = rotF f (m - i) m (m + j) := by
  funext p; unfold rotF
  have e : m + j - m = j := by omega
  rw [e]
  by_cases h1 : m - i ≤ p ∧ p < m - i + j
  · rw [if_neg (by omega), if_neg (by omega), if_pos h1]
    unfold swB
    rw [if_pos h1]
  · rw [if_neg h1]
    by_cases h2 : m - (i - j) ≤ p ∧ p < m - (i - j) + j
    · rw [if_pos h2, if_pos (by omega)]
      unfold swB
      rw [if_neg (by omega), if_pos (by omega)]; congr 1; omega
    · rw [if_neg h2]
      by_cases h3 : m - (i - j) + j ≤ p ∧ p < m + j
      · rw [if_pos h3, if_pos (by omega)]
        unfold swB
        rw [if_neg (by omega), if_neg (by omega)]
      · rw [if_neg h3, if_neg (by omega)]
        unfold swB
        rw [if_neg (by omega), if_neg (by omega)]
theorem rot_lt (f : Nat → Nat) (m i j : Nat) (h : i ≤ m) (hj : i < j) : rotF (swB f (m - i) (m + j - i) i) (m - i) m (m + (j - i)) = rotF f (m - i) m (m + j) := by
  funext p; unfold rotF
  have e1 : m + (j - i) - m = j - i := by omega
  have e2 : m + j - m = j := by omega
  rw [e1, e2]
  by_cases h1 : m - i ≤ p ∧ p < m - i + (j - i)
  · rw [if_pos h1, if_pos (by omega)]
    unfold swB
    rw [if_neg (by omega), if_neg (by omega)]
  · rw [if_neg h1]
    by_cases h2 : m - i + (j - i) ≤ p ∧ p < m + (j - i)
    · rw [if_pos h2, if_pos (by omega)]
      unfold swB
      rw [if_pos (by omega)]; congr 1; omega
    · rw [if_neg h2]
      by_cases h3 : m - i + j ≤ p ∧ p < m + j
      · rw [if_neg (by omega), if_pos h3]
        unfold swB
        rw [if_neg (by omega), if_pos (by omega)]; congr 1; omega
      · rw [if_neg (by omega), if_neg h3]
        unfold swB
        rw [if_neg (by omega), if_neg (by omega)]

/-! ### An order of values -/
structure Tot (lt : Nat → Nat → Prop) : Prop where
  irr : ∀ x, ¬ lt x x
  tr : ∀ x y z, lt x y → lt y z → lt x z
  tot : ∀ x y, x ≠ y → ¬ lt x y → lt y x
/-- From a to b each is ahead of the next ones. -/
def So (lt : Nat → Nat → Prop) (f : Nat → Nat) (a b : Nat) : Prop := ∀ p q, a ≤ p → p < q → q < b → lt (f p) (f q)
/-- From a to b the same values, elsewhere all as_ it was. -/
structure Wi (f g : Nat → Nat) (a b : Nat) : Prop where
  out : ∀ p, p < a ∨ b ≤ p → g p = f p
  mem : ∀ p, a ≤ p → p < b → ∃ q, a ≤ q ∧ q < b ∧ g p = f q
theorem Wi.refl (f : Nat → Nat) (a b : Nat) : Wi f f a b := ⟨fun _ _ => rfl, fun p h1 h2 => ⟨p, h1, h2, rfl⟩⟩
theorem Wi.trans {f g h : Nat → Nat} {a b : Nat} (k : Wi f g a b) (l : Wi g h a b) : Wi f h a b :=
  ⟨fun p hp => (l.out p hp).trans (k.out p hp), fun p h1 h2 => by
    obtain ⟨q, q1, q2, e⟩ := l.mem p h1 h2
    obtain ⟨r, r1, r2, e'⟩ := k.mem q q1 q2
    exact ⟨r, r1, r2, e.trans e'⟩⟩
theorem Wi.wide {f g : Nat → Nat} {a b c d : Nat} (k : Wi f g a b) (h1 : c ≤ a) (h2 : b ≤ d) : Wi f g c d :=
  ⟨fun p hp => k.out p (by omega), fun p p1 p2 => by
    by_cases h : a ≤ p ∧ p < b
    · obtain ⟨q, q1, q2, e⟩ := k.mem p h.1 h.2
      exact ⟨q, by omega, by omega, e⟩
    · exact ⟨p, p1, p2, k.out p (by omega)⟩⟩
theorem wi_sw (f : Nat → Nat) {a b i j : Nat} (h1 : a ≤ i) (h2 : i < b) (h3 : a ≤ j) (h4 : j < b) : Wi f (swF f i j) a b := by
  refine ⟨fun p hp => ?_, fun p p1 p2 => ?_⟩
  · unfold swF; rw [if_neg (by omega), if_neg (by omega)]
  · unfold swF
    by_cases e1 : p = i
    · rw [if_pos e1]; exact ⟨j, h3, h4, rfl⟩
    · rw [if_neg e1]
      by_cases e2 : p = j
      · rw [if_pos e2]; exact ⟨i, h1, h2, rfl⟩
      · rw [if_neg e2]; exact ⟨p, p1, p2, rfl⟩
theorem wi_rot (f : Nat → Nat) {s m e : Nat} (h1 : s ≤ m) (h2 : m ≤ e) : Wi f (rotF f s m e) s e := by
  refine ⟨fun p hp => ?_, fun p p1 p2 => ?_⟩
  · unfold rotF; rw [if_neg (by omega), if_neg (by omega)]
  · unfold rotF
    by_cases c1 : s ≤ p ∧ p < s + (e - m)
    · rw [if_pos c1]; exact ⟨p - s + m, by omega, by omega, rfl⟩
    · rw [if_neg c1, if_pos (by omega)]; exact ⟨p - (e - m), by omega, by omega, rfl⟩
/-- Sorted in both halves, the first ahead of the second. -/
theorem So.join {lt : Nat → Nat → Prop} {f : Nat → Nat} {a m b : Nat} (h1 : So lt f a m) (h2 : So lt f m b) (h : ∀ p q, a ≤ p → p < m → m ≤ q → q < b → lt (f p) (f q)) : So lt f a b := fun p q hp hpq hq => by
  by_cases c1 : q < m
  · exact h1 p q hp hpq c1
  · by_cases c2 : p < m
    · exact h p q hp c2 (by omega) hq
    · exact h2 p q (by omega) hpq hq
theorem So.sub {lt : Nat → Nat → Prop} {f : Nat → Nat} {a b c d : Nat} (h : So lt f a b) (h1 : a ≤ c) (h2 : d ≤ b) : So lt f c d := fun p q hp hpq hq => h p q (by omega) hpq (by omega)
theorem So.same {lt : Nat → Nat → Prop} {f g : Nat → Nat} {a b : Nat} (h : So lt f a b) (e : ∀ p, a ≤ p → p < b → g p = f p) : So lt g a b := fun p q hp hpq hq => by
  rw [e p hp (by omega), e q (by omega) hq]; exact h p q hp hpq hq

/-- What stands ahead of a merge. -/
structure Pm (lt : Nat → Nat → Prop) (f : Nat → Nat) (a m b : Nat) : Prop where
  l : So lt f a m
  r : So lt f m b
  x : ∀ p q, a ≤ p → p < m → m ≤ q → q < b → f p < f q
/-- What the search for the place of the cut finds. -/
structure Cut (lt : Nat → Nat → Prop) (f : Nat → Nat) (a m b mid start e : Nat) : Prop where
  s1 : a ≤ start
  s2 : start ≤ mid
  s3 : start ≤ m
  e1 : m ≤ e
  e2 : e ≤ b
  sum : start + e = mid + m
  lo : a < start → e < b → lt (f (start - 1)) (f e)
  hi : m < e → start < m → lt (f (e - 1)) (f start)
theorem le_of {lt : Nat → Nat → Prop} {f : Nat → Nat} {a b p q : Nat} (h : So lt f a b) (hp : a ≤ p) (hpq : p ≤ q) (hq : q < b) : p = q ∨ lt (f p) (f q) := by
  by_cases e : p = q
  · exact .inl e
  · exact .inr (h p q hp (by omega) hq)
theorem cut_split {lt : Nat → Nat → Prop} (T : Tot lt) {f : Nat → Nat} {a m b mid start e : Nat} (P : Pm lt f a m b) (C : Cut lt f a m b mid start e) :
    ∀ p q, a ≤ p → p < mid → mid ≤ q → q < b → lt (rotF f start m e p) (rotF f start m e q) := by
  have ⟨s1, s2, s3, e1, e2, sum, lo, hi⟩ := C
  intro p q hp1 hp2 hq1 hq2
  have em : start + (e - m) = mid := by omega
  -- what stands at p, at q
  have key : ∀ x y, ((a ≤ x ∧ x < start) ∨ (m ≤ x ∧ x < e)) → ((start ≤ y ∧ y < m) ∨ (e ≤ y ∧ y < b)) → lt (f x) (f y) := by
    intro x y hx hy
    rcases hx with hx | hx <;> rcases hy with hy | hy
    · exact P.l x y hx.1 (by omega) hy.2
    · have h1 := lo (by omega) (by omega)
      have h2 := le_of P.l (p := x) (q := start - 1) hx.1 (by omega) (by omega)
      have h3 := le_of P.r (p := e) (q := y) (by omega) hy.1 hy.2
      rcases h2 with h2 | h2 <;> rcases h3 with h3 | h3
      · subst h2 h3; exact h1
      · subst h2; exact T.tr _ _ _ h1 h3
      · subst h3; exact T.tr _ _ _ h2 h1
      · exact T.tr _ _ _ h2 (T.tr _ _ _ h1 h3)
    · have h1 := hi (by omega) (by omega)
      have h2 := le_of P.r (p := x) (q := e - 1) hx.1 (by omega) (by omega)
      have h3 := le_of P.l (p := start) (q := y) (by omega) hy.1 hy.2
      rcases h2 with h2 | h2 <;> rcases h3 with h3 | h3
      · subst h2 h3; exact h1
      · subst h2; exact T.tr _ _ _ h1 h3
      · subst h3; exact T.tr _ _ _ h2 h1
      · exact T.tr _ _ _ h2 (T.tr _ _ _ h1 h3)
    · exact P.r x y hx.1 (by omega) hy.2
  have vp : ∃ x, rotF f start m e p = f x ∧ ((a ≤ x ∧ x < start) ∨ (m ≤ x ∧ x < e)) := by
    unfold rotF
    by_cases c : start ≤ p ∧ p < start + (e - m)
    · rw [if_pos c]; exact ⟨_, rfl, .inr (by omega)⟩
    · rw [if_neg c, if_neg (by omega)]; exact ⟨_, rfl, .inl (by omega)⟩
  have vq : ∃ y, rotF f start m e q = f y ∧ ((start ≤ y ∧ y < m) ∨ (e ≤ y ∧ y < b)) := by
    unfold rotF
    rw [if_neg (by omega)]
    by_cases c : start + (e - m) ≤ q ∧ q < e
    · rw [if_pos c]; exact ⟨_, rfl, .inl (by omega)⟩
    · rw [if_neg c]; exact ⟨_, rfl, .inr (by omega)⟩
  obtain ⟨x, ex, hx⟩ := vp
  obtain ⟨y, ey, hy⟩ := vq
  rw [ex, ey]
  exact key x y hx hy
/-- The two merges behind a cut have what a merge needs. -/
theorem cut_pm {lt : Nat → Nat → Prop} {f : Nat → Nat} {a m b mid start e : Nat} (P : Pm lt f a m b) (C : Cut lt f a m b mid start e) :
    Pm lt (rotF f start m e) a start mid ∧ Pm lt (rotF f start m e) mid e b := by
  have ⟨s1, s2, s3, e1, e2, sum, lo, hi⟩ := C
  have v1 : ∀ p, p < start → rotF f start m e p = f p := fun p hp => by unfold rotF; rw [if_neg (by omega), if_neg (by omega)]
  have v2 : ∀ p, start ≤ p → p < mid → rotF f start m e p = f (p - start + m) := fun p h1 h2 => by unfold rotF; rw [if_pos (by omega)]
  have v3 : ∀ p, mid ≤ p → p < e → rotF f start m e p = f (p - (e - m)) := fun p h1 h2 => by unfold rotF; rw [if_neg (by omega), if_pos (by omega)]
  have v4 : ∀ p, e ≤ p → rotF f start m e p = f p := fun p hp => by unfold rotF; rw [if_neg (by omega), if_neg (by omega)]
  refine ⟨⟨fun p q hp hpq hq => ?_, fun p q hp hpq hq => ?_, fun p q h1 h2 h3 h4 => ?_⟩, ⟨fun p q hp hpq hq => ?_, fun p q hp hpq hq => ?_, fun p q h1 h2 h3 h4 => ?_⟩⟩
  · rw [v1 p (by omega), v1 q hq]; exact P.l p q hp hpq (by omega)
  · rw [v2 p hp (by omega), v2 q (by omega) hq]; exact P.r _ _ (by omega) (by omega) (by omega)
  · rw [v1 p h2, v2 q h3 h4]; exact P.x _ _ h1 (by omega) (by omega) (by omega)
  · rw [v3 p hp (by omega), v3 q (by omega) hq]; exact P.l _ _ (by omega) (by omega) (by omega)
  · rw [v4 p hp, v4 q (by omega)]; exact P.r _ _ (by omega) (by omega) (by omega)
  · rw [v3 p h1 h2, v4 q h3]; exact P.x _ _ (by omega) (by omega) (by omega) h4
/-- A merge by a cut and two merges. -/
theorem cut_done {lt : Nat → Nat → Prop} (T : Tot lt) {f g h : Nat → Nat} {a m b mid start e : Nat} (P : Pm lt f a m b) (C : Cut lt f a m b mid start e)
    (g1 : Wi (rotF f start m e) g a mid) (g2 : So lt g a mid) (h1 : Wi g h mid b) (h2 : So lt h mid b) (ha : a ≤ mid) (hb : mid ≤ b) : Wi f h a b ∧ So lt h a b := by
  have ⟨s1, s2, s3, e1, e2, sum, lo, hi⟩ := C
  refine ⟨((wi_rot f s3 e1).wide s1 e2).trans ((g1.wide (Nat.le_refl _) hb).trans (h1.wide ha (Nat.le_refl _))), ?_⟩
  refine So.join (m := mid) (g2.same fun p _ hp => h1.out p (.inl hp)) h2 fun p q p1 p2 q1 q2 => ?_
  obtain ⟨q', r1, r2, e'⟩ := h1.mem q q1 q2
  rw [h1.out p (.inl p2), e', g1.out q' (.inr r1)]
  obtain ⟨p', t1, t2, e''⟩ := g1.mem p p1 p2
  rw [e'']
  exact cut_split T P C p' q' t1 t2 r1 r2
end Go.Proofs.Ytefhcmkiachphaa.Sp
end
