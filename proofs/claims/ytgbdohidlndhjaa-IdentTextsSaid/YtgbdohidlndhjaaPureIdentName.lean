/- Proved: the reference's Right is name.Right's answer; what is a name has no number sign. Condition: a text of at most 2^47 bytes. -/
import Derived.Test.YtgbdohidlndhjaaXIdx4
import Derived.Test.YtgbdohidlndhjaaXIdx5
import Derived.Test.YtgbdohidlndhjaaPureIdentCore
import Derived.Laws.RangeAny
import Derived.Laws.RangeString
namespace Go.Proofs.Ytgbdohidlndhjaa.IdName
set_option linter.unusedVariables false
set_option linter.unusedSimpArgs false
open Go.RowKit Go.Lib Go.Proofs.Ytgbdohidlndhjaa.XId Go.Proofs.YtgbdohidlndhjaaW.PrintWords Go.Proofs.YtgbdohidlndhjaaW.PrintLast Go.Proofs.YtgbdohidlndhjaaW.PrintMore
open Go.Proofs.Ytgbdohidlndhjaa.EName (okRune rightB setL setB sortB bs unbs)

theorem letter_all : ∀ c, c ∈ List.range 256 → rafterref02_letter.f 41 (c : Int) = some (okRune c) := by decide +kernel

/-- Are all bytes from pos on such as stand in names? -/
def okFrom (s : ByteArray) (pos : Nat) : Bool := (s.data.toList.drop pos).all fun c => okRune c.toNat

theorem okFrom_step (s : ByteArray) (pos : Nat) (h : pos < s.size) : okFrom s pos = (okRune (s[pos]'h).toNat && okFrom s (pos + 1)) := by
  unfold okFrom
  have h' : pos < s.data.toList.length := by rw [data_length]; exact h
  rw [List.drop_eq_getElem_cons h', List.all_cons]
  rfl
theorem okFrom_end (s : ByteArray) (pos : Nat) (h : s.size ≤ pos) : okFrom s pos = true := by
  unfold okFrom
  rw [List.drop_of_length_le (by rw [data_length]; exact h)]
  rfl

theorem okRune_high (r : Nat) (h : 128 ≤ r) : okRune r = false := by
  unfold okRune
  simp
  omega

theorem idx_ok (s : ByteArray) : ∀ (f pos : Nat), s.size - pos ≤ f → decide (Lib.idxFuncFrom (fun r => !okRune r) true s f pos < 0) = okFrom s pos
  | 0, pos, h => by
    rw [okFrom_end s pos (by omega)]
    rfl
  | f + 1, pos, h => by
    unfold Lib.idxFuncFrom
    by_cases hp : pos < s.size
    · rw [if_pos hp, okFrom_step s pos hp]
      by_cases ha : (s[pos]'hp).toNat < 128
      · rw [decode_ascii s pos hp ha]
        by_cases ho : okRune (s[pos]'hp).toNat = true
        · rw [if_neg (by simp [ho])]
          rw [idx_ok s f (pos + 1) (by omega), ho]
          rfl
        · rw [if_pos (by simp [ho])]
          simp [ho]
      · have hd := decode_high s pos hp (by omega)
        rw [if_pos (by simp [okRune_high _ hd.1]), okRune_high _ (by omega)]
        simp
    · rw [if_neg hp, okFrom_end s pos (by omega)]
      rfl

/-- What the reference says behind its loop. -/
def tl (s : ByteArray) : Bool := if (s.size : Int) ≥ 1 then (if (s.size : Int) ≤ 40 then (if s.toList = ([46] : List UInt8) then false else (s.toList != ([46, 46] : List UInt8))) else false) else false

theorem bt_get (s : ByteArray) (i : Int) (h : i.toNat < s.size) : bt s i = ((s[i.toNat]'h).toNat : Int) := (bt_at s i h).symm

theorem right_loop (s : ByteArray) (hn : s.size ≤ 140737488351232) (d : Nat) : ∀ (k : Nat) (i : Int), 0 ≤ i → i ≤ s.size → (s.size : Int) - i = d → d + 41 < k →
    rafterref02_Right.l0 k s i = some (okFrom s i.toNat && tl s) := by
  induction d with
  | zero =>
    intro k i h0 h1 hd hk
    obtain ⟨k, rfl⟩ : ∃ m, k = m + 1 := ⟨k - 1, by omega⟩
    simp only [rafterref02_Right.l0]
    rw [if_neg (by omega), okFrom_end s _ (by omega), Bool.true_and]
    unfold tl
    repeat' split
    all_goals rfl
  | succ d ih =>
    intro k i h0 h1 hd hk
    obtain ⟨k, rfl⟩ : ∃ m, k = m + 1 := ⟨k - 1, by omega⟩
    have hlt : i < (s.size : Int) := by omega
    have hi : i.toNat < s.size := by omega
    have hb : rafterref02_letter.f k (bt s i) = some (okRune (s[i.toNat]'hi).toNat) := by
      rw [bt_get s i hi]
      exact at_rounds (rafterref02_letter.mono _) (show 41 ≤ k by omega) (letter_all _ (by rw [List.mem_range]; exact (s[i.toNat]'hi).toNat_lt))
    simp only [rafterref02_Right.l0]
    rw [if_pos hlt, if_pos h0, hb, okFrom_step s _ hi]
    simp only [Option.bind_some]
    by_cases ho : okRune (s[i.toNat]'hi).toNat = true
    · rw [if_pos ho, show wrap64 (i + 1) = i + 1 by unfold wrap64; omega, ih k (i + 1) (by omega) (by omega) (by omega) (by omega), ho, Bool.true_and, show (i + 1).toNat = i.toNat + 1 by omega]
    · rw [if_neg ho]
      simp [ho]

theorem toList_size (s : ByteArray) : s.toList = s.data.toList := by
  obtain ⟨⟨l⟩⟩ := s
  simp

theorem right_eq (s : ByteArray) : rightB s = (okFrom s 0 && tl s) := by
  unfold rightB
  rw [show Lib.idxFunc (fun r => !okRune r) true s = Lib.idxFuncFrom (fun r => !okRune r) true s s.size 0 from rfl, idx_ok s s.size 0 (by omega)]
  have hs : s.toList = [] ↔ s.size = 0 := by
    rw [toList_size, ← data_length]
    exact List.eq_nil_iff_length_eq_zero
  unfold tl
  by_cases h1 : s.size = 0
  · simp [h1, hs.2 h1]
  · have h2 : ¬ s.toList = [] := fun h => h1 (hs.1 h)
    rw [if_pos (by omega)]
    by_cases h3 : s.size ≤ 40
    · rw [if_pos (by omega)]
      by_cases h4 : s.toList = [46]
      · simp [h4]
      · rw [if_neg h4]
        by_cases h5 : s.toList = [46, 46]
        · simp [h5]
        · rw [beq_eq_false_iff_ne.2 h2, beq_eq_false_iff_ne.2 h4, beq_eq_false_iff_ne.2 h5, bne_iff_ne.2 h5, decide_eq_true h3]
          simp
    · rw [if_neg (by omega)]
      simp [h3]

theorem right2_ev (s : ByteArray) (hn : s.size ≤ 140737488351232) : Ev (fun k => rafterref02_Right.f k s) (rightB s) := by
  refine ⟨s.size + 50, fun k hk => ?_⟩
  show rafterref02_Right.l0 k s 0 = _
  rw [right_loop s hn s.size k 0 (by omega) (by omega) (by omega) (by omega), right_eq]
  rfl
/-- No number sign stands in a name. -/
theorem no_sign (s : ByteArray) (h : rightB s = true) : (35 : UInt8) ∉ s.data.toList := by
  rw [right_eq, Bool.and_eq_true] at h
  have h1 := h.1
  unfold okFrom at h1
  rw [List.drop_zero, List.all_eq_true] at h1
  intro hm
  have := h1 35 hm
  exact absurd this (by decide)
end Go.Proofs.Ytgbdohidlndhjaa.IdName
