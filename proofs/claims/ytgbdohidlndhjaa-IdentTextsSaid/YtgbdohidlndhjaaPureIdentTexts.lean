/- Proved: the law IdentTexts answers true for every id and every text. No condition. -/
import Derived.Test.YtgbdohidlndhjaaXIdx2
import Derived.Test.YtgbdohidlndhjaaXIdx5
import Derived.Test.YtgbdohidlndhjaaXIdx6
import Derived.Test.YtgbdohidlndhjaaPureIdentName
import Derived.Lib.IndexLaws
namespace Go.Proofs.Ytgbdohidlndhjaa.Pure
set_option linter.unusedVariables false
set_option linter.unusedSimpArgs false
open Go.RowKit Go.Proofs.Ytgbdohidlndhjaa.XId Go.Proofs.YtgbdohidlndhjaaW.PrintWords Go.Proofs.YtgbdohidlndhjaaW.PrintLast Go.Proofs.YtgbdohidlndhjaaW.PrintMore
open Go.Proofs.Ytgbdohidlndhjaa.IdCore Go.Proofs.Ytgbdohidlndhjaa.IdName
open Go.Proofs.Ytgbdohidlndhjaa.EName (okRune rightB)

def B (l : List UInt8) : ByteArray := ⟨l.toArray⟩
theorem B_app (l m : List UInt8) : B l ++ B m = B (l ++ m) := by
  apply toList_inj.1
  rw [toList_data, toList_data, ByteArray.data_append]
  simp [B]
theorem B_size (l : List UInt8) : (B l).size = l.length := by simp [B, ByteArray.size]
theorem B_data (l : List UInt8) : (B l).data.toList = l := by simp [B]
theorem B_of (s : ByteArray) : B s.data.toList = s := by simp [B]
abbrev D : ByteArray := ⟨#[48, 49, 50, 51, 52, 53, 54, 55, 56, 57]⟩
def dch (d : Nat) : UInt8 := (48 + d).toUInt8
theorem D_ext : ∀ d, d ∈ List.range 10 → D.extract d (d + 1) = B [dch d] := by decide +kernel
theorem D_ext' (d : Nat) (h : d < 10) : D.extract d (d + 1) = B [dch d] := D_ext d (List.mem_range.2 h)
theorem D_idx : ∀ d, d ∈ List.range 10 → Lib.indexByte D.data.toList (dch d) = (d : Int) := by decide +kernel
theorem D_no : ∀ d, d ∈ List.range 10 → dch d ≠ 35 := by decide +kernel
/-- A number's digits, at most f + 1. -/
def dg : Nat → Nat → List UInt8
  | 0, n => [dch n]
  | f + 1, n => if n < 10 then [dch n] else dg f (n / 10) ++ [dch (n % 10)]
theorem dg_len : ∀ f n, (dg f n).length ≤ f + 1
  | 0, n => by simp [dg]
  | f + 1, n => by
    unfold dg
    split
    · simp
    · have := dg_len f (n / 10)
      simp only [List.length_append, List.length_cons, List.length_nil]
      omega
theorem dg_ne : ∀ f n, dg f n ≠ []
  | 0, n => by simp [dg]
  | f + 1, n => by
    unfold dg
    split <;> simp
theorem dec_ev : ∀ (f n : Nat) (s : List UInt8), n < 10 ^ (f + 1) → s.length + f ≤ 1000 → n ≤ 9000000000 → Ev (fun k => ident_decimal.l0 k (n : Int) (B s)) (B (dg f n ++ s)) := by
  have last : ∀ (n : Nat) (s : List UInt8), n < 10 → s.length ≤ 1000 → Ev (fun k => ident_decimal.l0 k (n : Int) (B s)) (B ([dch n] ++ s)) := by
    intro n s hn hs
    have h1 : (0 : Int) ≤ (n : Int) := by omega
    have h2 : (n : Int) ≤ (((n + 1 : Nat)) : Int) := by omega
    have h3 : (((n + 1 : Nat)) : Int) ≤ 10 := by omega
    have h4 : (B [dch n]).size + (B s).size ≤ 9223372036854775807 := by rw [B_size, B_size]; simp only [List.length_cons, List.length_nil]; omega
    have h0 : ¬ (n : Int) > 9 := by omega
    refine Ev.step (f := fun _ => some (B ([dch n] ++ s))) (fun k => ?_) (Ev.now _)
    simp only [ident_decimal.l0]
    rw [if_neg h0, if_pos h1, wrap_nat n (by omega), if_pos h2, if_pos h3, Int.toNat_natCast, Int.toNat_natCast, D_ext' n hn, if_pos h4, B_app]
  intro f
  induction f with
  | zero =>
    intro n s hn hs _
    exact last n s (by omega) (by omega)
  | succ f ih =>
    intro n s hn hs h9
    by_cases h : n < 10
    · have e : dg (f + 1) n = [dch n] := by unfold dg; rw [if_pos h]
      rw [e]
      exact last n s h (by omega)
    · have e : dg (f + 1) n ++ s = dg f (n / 10) ++ ([dch (n % 10)] ++ s) := by
        rw [show dg (f + 1) n = dg f (n / 10) ++ [dch (n % 10)] by simp only [dg]; rw [if_neg h], List.append_assoc]
      have hm : Int.tmod (n : Int) 10 = ((n % 10 : Nat) : Int) := by rw [Int.tmod_eq_emod_of_nonneg (by omega)]; omega
      have hd : wrap64 (Int.tdiv (n : Int) 10) = ((n / 10 : Nat) : Int) := by rw [Int.tdiv_eq_ediv_of_nonneg (by omega), wrap64_in _ (by omega)]; omega
      have hq : n / 10 < 10 ^ (f + 1) := by
        rw [Nat.div_lt_iff_lt_mul (by omega)]
        rw [Nat.pow_succ] at hn
        exact hn
      have ihn := ih (n / 10) ([dch (n % 10)] ++ s) hq (by simp only [List.length_append, List.length_cons, List.length_nil]; omega) (by omega)
      rw [e]
      have h0 : (n : Int) > 9 := by omega
      have h1 : (0 : Int) ≤ ((n % 10 : Nat) : Int) := by omega
      have h2 : ((n % 10 : Nat) : Int) ≤ (((n % 10 + 1 : Nat)) : Int) := by omega
      have h3 : (((n % 10 + 1 : Nat)) : Int) ≤ 10 := by omega
      have h4 : (B [dch (n % 10)]).size + (B s).size ≤ 9223372036854775807 := by rw [B_size, B_size]; simp only [List.length_cons, List.length_nil]; omega
      refine Ev.step (f := fun k => ident_decimal.l0 k ((n / 10 : Nat) : Int) (B ([dch (n % 10)] ++ s))) (fun k => ?_) ihn
      simp only [ident_decimal.l0]
      rw [if_pos h0, hm, if_pos h1, wrap_nat (n % 10) (by omega), if_pos h2, if_pos h3, Int.toNat_natCast, Int.toNat_natCast, D_ext' (n % 10) (by omega), if_pos h4, hd, B_app]
theorem digits_ev : ∀ (f n : Nat), n < 10 ^ (f + 1) → f ≤ 100 → n ≤ 9000000000 → Ev (fun k => rafterref11_Digits.f k (n : Int)) (B (dg f n)) := by
  have last : ∀ (n : Nat), n < 10 → Ev (fun k => rafterref11_Digits.f k (n : Int)) (B [dch n]) := by
    intro n hn
    have h1 : (0 : Int) ≤ (n : Int) := by omega
    have h2 : (n : Int) ≤ (((n + 1 : Nat)) : Int) := by omega
    have h3 : (((n + 1 : Nat)) : Int) ≤ 10 := by omega
    have h0 : (n : Int) < 10 := by omega
    refine Ev.step (f := fun _ => some (B [dch n])) (fun k => ?_) (Ev.now _)
    simp only [rafterref11_Digits.f]
    rw [if_pos h0, if_pos h1, wrap_nat n (by omega), if_pos h2, if_pos h3, Int.toNat_natCast, Int.toNat_natCast, D_ext' n hn]
  intro f
  induction f with
  | zero =>
    intro n hn hs _
    exact last n (by omega)
  | succ f ih =>
    intro n hn hs h9
    by_cases h : n < 10
    · have e : dg (f + 1) n = [dch n] := by unfold dg; rw [if_pos h]
      rw [e]
      exact last n h
    · have e : dg (f + 1) n = dg f (n / 10) ++ [dch (n % 10)] := by simp only [dg]; rw [if_neg h]
      have hm : Int.tmod (n : Int) 10 = ((n % 10 : Nat) : Int) := by rw [Int.tmod_eq_emod_of_nonneg (by omega)]; omega
      have hd : wrap64 (Int.tdiv (n : Int) 10) = ((n / 10 : Nat) : Int) := by rw [Int.tdiv_eq_ediv_of_nonneg (by omega), wrap64_in _ (by omega)]; omega
      have hq : n / 10 < 10 ^ (f + 1) := by
        rw [Nat.div_lt_iff_lt_mul (by omega)]
        rw [Nat.pow_succ] at hn
        exact hn
      have i1 := ih (n / 10) hq (by omega) (by omega)
      have i2 := last (n % 10) (by omega)
      have hl := dg_len f (n / 10)
      have h0 : ¬ (n : Int) < 10 := by omega
      have h4 : (B (dg f (n / 10))).size + (B [dch (n % 10)]).size ≤ 9223372036854775807 := by rw [B_size, B_size]; simp only [List.length_cons, List.length_nil]; omega
      rw [e]
      refine Ev.step (f := fun k => (rafterref11_Digits.f k ((n / 10 : Nat) : Int)).bind fun t186 => ((rafterref11_Digits.f k ((n % 10 : Nat) : Int)).bind fun t187 => (if t186.size + t187.size ≤ 9223372036854775807 then (some (t186 ++ t187)) else (none)))) (fun k => ?_) (Ev.bind i1 (Ev.bind i2 (Ev.congr (f := fun _ => some (B (dg f (n / 10) ++ [dch (n % 10)]))) (fun k => by rw [if_pos h4, B_app]) (Ev.now _))))
      simp only [rafterref11_Digits.f]
      rw [if_neg h0, hm, hd]

/-! ### Right, Text -/
def idR (p : ByteArray) (n : Int) : Bool := if p.toList = [] then (decide (0 ≤ n) && decide (n ≤ 2)) else (rightB p && decide (0 ≤ n) && decide (n ≤ 1048576))
theorem idR_bound (p : ByteArray) (n : Int) (h : idR p n = true) : 0 ≤ n ∧ n ≤ 1048576 ∧ (35 : UInt8) ∉ p.data.toList := by
  unfold idR at h
  split at h
  · rename_i hp
    simp only [Bool.and_eq_true, decide_eq_true_eq] at h
    refine ⟨h.1, by omega, ?_⟩
    rw [← toList_data, hp]
    simp
  · simp only [Bool.and_eq_true, decide_eq_true_eq] at h
    exact ⟨h.1.2, h.2, no_sign p h.1.1⟩
theorem right_f (p : ByteArray) (n : Int) (hp : p.size ≤ 9223372036854775807) : ident_Right.f p n = some (idR p n) := by
  unfold ident_Right.f idR ident_Root.f ident_Begin.f ident_End.f name_Right.f
  by_cases h : p.toList = []
  · have e0 : (⟨#[]⟩ : ByteArray).toList = [] := by rw [toList_data]
    rw [if_pos h, if_pos h, h]
    simp only [Option.bind_some, e0]
    by_cases c0 : n = 0
    · subst c0; rfl
    · by_cases c1 : n = 1
      · subst c1; rfl
      · by_cases c2 : n = 2
        · subst c2; rfl
        · have e0 : (n == 0) = false := beq_eq_false_iff_ne.2 c0
          have e1 : (n == 1) = false := beq_eq_false_iff_ne.2 c1
          have e2 : (n == 2) = false := beq_eq_false_iff_ne.2 c2
          rw [e0, e1, e2]
          simp only [Bool.and_false, Bool.false_eq_true, if_false]
          congr 1
          symm
          rw [Bool.and_eq_false_iff, decide_eq_false_iff_not, decide_eq_false_iff_not]
          omega
  · rw [if_neg h, if_neg h, if_pos hp, Option.bind_some]
    cases rightB p with
    | false => simp
    | true =>
      rw [if_pos rfl]
      by_cases c : n ≥ 0
      · rw [if_pos c, decide_eq_true (show 0 ≤ n from c)]
        simp
      · rw [if_neg c, decide_eq_false (show ¬ 0 ≤ n from c)]
        simp
theorem right11_ev (p : ByteArray) (n : Int) (hp : p.size ≤ 140737488351232) : Ev (fun k => rafterref11_Right.f k p n) (idR p n) := by
  unfold idR
  by_cases h : p.toList = []
  · rw [if_pos h]
    refine Ev.congr (f := fun _ => some (decide (0 ≤ n) && decide (n ≤ 2))) (fun k => ?_) (Ev.now _)
    unfold rafterref11_Right.f
    rw [if_pos h]
    by_cases c : n ≥ 0
    · rw [if_pos c, decide_eq_true (show 0 ≤ n from c), Bool.true_and]
    · rw [if_neg c, decide_eq_false (show ¬ 0 ≤ n from c), Bool.false_and]
  · rw [if_neg h]
    refine Ev.congr (fun k => by unfold rafterref11_Right.f; rw [if_neg h]) (Ev.bind (right2_ev p hp) ?_)
    refine Ev.congr (f := fun _ => some (rightB p && decide (0 ≤ n) && decide (n ≤ 1048576))) (fun k => ?_) (Ev.now _)
    cases rightB p with
    | false => rw [if_neg (by simp)]; rfl
    | true =>
      rw [if_pos rfl]
      by_cases c : n ≥ 0
      · rw [if_pos c, decide_eq_true (show 0 ≤ n from c)]
        rfl
      · rw [if_neg c, decide_eq_false (show ¬ 0 ≤ n from c)]
        rfl
def txt (p : ByteArray) (n : Int) : ByteArray := if idR p n = true then B (p.data.toList ++ 35 :: dg 6 n.toNat) else B []
theorem text_pieces (p : ByteArray) (l : List UInt8) : (p ++ (⟨#[35]⟩ : ByteArray)) ++ B l = B (p.data.toList ++ 35 :: l) := by
  have e : p ++ (⟨#[35]⟩ : ByteArray) = B (p.data.toList ++ [35]) := by
    rw [← B_of p]
    show B _ ++ B [35] = _
    rw [B_app, B_data]
  rw [e, B_app, List.append_assoc]
  rfl
theorem text_ev (p : ByteArray) (n : Int) (hp : p.size ≤ 1000000) : Ev (fun k => ident_Text.f k p n) (txt p n) := by
  unfold txt
  cases hr : idR p n with
  | false =>
    refine Ev.congr (f := fun _ => some (B [])) (fun k => ?_) (Ev.now _)
    unfold ident_Text.f
    rw [right_f p n (by omega), hr, Option.bind_some, if_neg (by simp)]
    rfl
  | true =>
    obtain ⟨h0, h1, _⟩ := idR_bound p n hr
    obtain ⟨m, rfl⟩ : ∃ m : Nat, n = (m : Int) := ⟨n.toNat, by omega⟩
    have hd := dec_ev 6 m [] (by omega) (by simp) (by omega)
    rw [List.append_nil] at hd
    have hl := dg_len 6 m
    have hs : (p ++ (⟨#[35]⟩ : ByteArray)).size + (B (dg 6 m)).size ≤ 9223372036854775807 := by
      rw [ByteArray.size_append, B_size]
      have : (⟨#[35]⟩ : ByteArray).size = 1 := rfl
      omega
    rw [if_pos rfl, Int.toNat_natCast]
    refine Ev.congr (f := fun k => (ident_decimal.f k (m : Int)).bind fun t114 => (if (p ++ (⟨#[35]⟩ : ByteArray)).size + t114.size ≤ 9223372036854775807 then (some ((p ++ (⟨#[35]⟩ : ByteArray)) ++ t114)) else (none))) (fun k => ?_) (Ev.bind (a := B (dg 6 m)) hd ?_)
    · unfold ident_Text.f
      rw [right_f p _ (by omega), hr, Option.bind_some, if_pos rfl, if_pos (by omega)]
    · exact Ev.congr (f := fun _ => some (B (p.data.toList ++ 35 :: dg 6 m))) (fun k => by rw [if_pos hs, text_pieces]) (Ev.now _)
theorem text11_ev (p : ByteArray) (n : Int) (hp : p.size ≤ 1000000) : Ev (fun k => rafterref11_Text.f k p n) (txt p n) := by
  refine Ev.congr (fun k => by unfold rafterref11_Text.f; rfl) (Ev.bind (right11_ev p n (by omega)) ?_)
  unfold txt
  cases hr : idR p n with
  | false => exact Ev.congr (f := fun _ => some (B [])) (fun k => by rw [if_neg (by simp)]; rfl) (Ev.now _)
  | true =>
    obtain ⟨h0, h1, _⟩ := idR_bound p n hr
    obtain ⟨m, rfl⟩ : ∃ m : Nat, n = (m : Int) := ⟨n.toNat, by omega⟩
    have hd := digits_ev 6 m (by omega) (by omega) (by omega)
    have hl := dg_len 6 m
    have hs : (p ++ (⟨#[35]⟩ : ByteArray)).size + (B (dg 6 m)).size ≤ 9223372036854775807 := by
      rw [ByteArray.size_append, B_size]
      have : (⟨#[35]⟩ : ByteArray).size = 1 := rfl
      omega
    rw [if_pos rfl, Int.toNat_natCast]
    refine Ev.congr (fun k => by rw [if_pos rfl, if_pos (by omega)]) (Ev.bind hd ?_)
    exact Ev.congr (f := fun _ => some (B (p.data.toList ++ 35 :: dg 6 m))) (fun k => by rw [if_pos hs, text_pieces]) (Ev.now _)
theorem txt_empty (p : ByteArray) (n : Int) : (txt p n).toList = [] ↔ idR p n = false := by
  unfold txt
  cases idR p n with
  | false => simp [toList_data, B]
  | true => simp [toList_data, B]
/-! ### Parse -/
def idx (c : UInt8) : Int := Lib.indexByte D.data.toList c
theorem indexByte_lt : ∀ (l : List UInt8) (c : UInt8), Lib.indexByte l c < (l.length : Int) + (if l = [] then 1 else 0)
  | [], c => by simp [Lib.indexByte]
  | b :: l, c => by
    have ih := indexByte_lt l c
    unfold Lib.indexByte
    simp only [List.length_cons, List.cons_ne_nil, if_false, reduceCtorEq]
    split
    · omega
    · split
      · omega
      · split at ih
        · rename_i hl
          subst hl
          simp [Lib.indexByte] at *
        · omega
theorem idx_bd (c : UInt8) : -1 ≤ idx c ∧ idx c ≤ 9 := by
  have h1 := Lib.indexByte_ge D.data.toList c
  have h2 := indexByte_lt D.data.toList c
  have h3 : D.data.toList.length = 10 := rfl
  rw [if_neg (by simp), h3] at h2
  exact ⟨h1, by unfold idx; omega⟩
def val : Int → List UInt8 → Int
  | a, [] => a
  | a, c :: l => val (10 * a + max (idx c) 0) l
theorem val_app : ∀ (l : List UInt8) (a : Int) (c : UInt8), val a (l ++ [c]) = 10 * val a l + max (idx c) 0
  | [], a, c => rfl
  | b :: l, a, c => by simp only [List.cons_append, val]; exact val_app l _ c
theorem val_dg : ∀ (f n : Nat), n < 10 ^ (f + 1) → val 0 (dg f n) = (n : Int) := by
  have last : ∀ n : Nat, n < 10 → val 0 [dch n] = (n : Int) := by
    intro n hn
    show 10 * 0 + max (idx (dch n)) 0 = _
    rw [show idx (dch n) = (n : Int) from D_idx n (List.mem_range.2 hn)]
    omega
  intro f
  induction f with
  | zero => exact fun n hn => last n (by omega)
  | succ f ih =>
    intro n hn
    by_cases h : n < 10
    · rw [show dg (f + 1) n = [dch n] by unfold dg; rw [if_pos h]]
      exact last n h
    · have hq : n / 10 < 10 ^ (f + 1) := by
        rw [Nat.div_lt_iff_lt_mul (by omega)]
        rw [Nat.pow_succ] at hn
        exact hn
      rw [show dg (f + 1) n = dg f (n / 10) ++ [dch (n % 10)] by simp only [dg]; rw [if_neg h], val_app, ih _ hq, show idx (dch (n % 10)) = ((n % 10 : Nat) : Int) from D_idx _ (List.mem_range.2 (by omega))]
      omega
def bef (s : ByteArray) : ByteArray := ⟨(Lib.cut s.data.toList [35]).1.toArray⟩
def aft (s : ByteArray) : ByteArray := ⟨(Lib.cut s.data.toList [35]).2.1.toArray⟩
theorem bef_size (s : ByteArray) : (bef s).size ≤ s.size ∧ (aft s).size ≤ s.size := by
  have hz : s.size = s.data.toList.length := (data_length s).symm
  have hb : (bef s).size = (Lib.cut s.data.toList [35]).1.length := B_size _
  have ha : (aft s).size = (Lib.cut s.data.toList [35]).2.1.length := B_size _
  rw [hb, ha, hz]
  unfold Lib.cut
  split
  · refine ⟨?_, ?_⟩
    · show (List.take _ _).length ≤ _
      rw [List.length_take]
      omega
    · show (List.drop _ _).length ≤ _
      rw [List.length_drop]
      omega
  · exact ⟨Nat.le_refl _, Nat.zero_le _⟩
def num (s : ByteArray) : Int := val 0 ((aft s).data.toList.take 8)
def prs (s : ByteArray) : ByteArray × Int × Int := if s.toList = [] then (B [], 0, 6) else if (txt (bef s) (num s)).toList = s.toList then (bef s, num s, 0) else (B [], 0, 6)
theorem val_bd : ∀ (j : Nat) (l : List UInt8), l.length = j → 0 ≤ val 0 l ∧ val 0 l < 10 ^ j := by
  intro j
  induction j with
  | zero =>
    intro l hl
    obtain rfl := List.eq_nil_of_length_eq_zero hl
    exact ⟨Int.le_refl _, by simp [val]⟩
  | succ j ih =>
    intro l hl
    have hne : l ≠ [] := by intro e; rw [e] at hl; simp at hl
    have e := List.dropLast_concat_getLast hne
    rw [← e, val_app]
    have h1 := ih l.dropLast (by rw [List.length_dropLast]; omega)
    have h2 := idx_bd (l.getLast hne)
    have h3 : (10 : Int) ^ (j + 1) = 10 * 10 ^ j := by rw [Int.pow_succ]; omega
    rw [h3]
    constructor
    · omega
    · omega
theorem parse_ev (s : ByteArray) (hs : s.size ≤ 1000) : Ev (fun k => ident_Parse.f k s) (prs s) := by
  have hb := bef_size s
  obtain ⟨q, hq⟩ : ∃ q, aft s = q := ⟨_, rfl⟩
  obtain ⟨p, hp⟩ : ∃ p, bef s = p := ⟨_, rfl⟩
  have hz : q.size = q.data.toList.length := (data_length q).symm
  obtain ⟨m, hm⟩ : ∃ m : Nat, m = min q.size 8 := ⟨_, rfl⟩
  have hmn : mn (q.size : Int) 8 = (m : Int) := by unfold mn; split <;> omega
  have hnum : num s = val 0 (q.data.toList.take m) := by
    unfold num
    rw [hq]
    congr 1
    by_cases h : q.size ≤ 8
    · rw [List.take_of_length_le (by omega), List.take_of_length_le (by omega)]
    · rw [show m = 8 by omega]
  have ht := text_ev p (num s) (by rw [← hp]; omega)
  have fin : Ev (fun k => if s.toList = ([] : List UInt8) then (some ((⟨#[]⟩ : ByteArray), (0 : Int), (6 : Int))) else ((ident_Text.f k p (num s)).bind fun t121 => (if t121.toList = s.toList then (some (p, num s, 0)) else (some ((⟨#[]⟩ : ByteArray), 0, 6))))) (prs s) := by
    unfold prs
    rw [hp]
    by_cases h : s.toList = []
    · rw [if_pos h]
      exact Ev.congr (f := fun _ => some (B [], (0 : Int), (6 : Int))) (fun k => by rw [if_pos h]; rfl) (Ev.now _)
    · rw [if_neg h]
      refine Ev.congr (fun k => by rw [if_neg h]) (Ev.bind ht ?_)
      by_cases h2 : (txt p (num s)).toList = s.toList
      · rw [if_pos h2, if_pos h2]
        exact Ev.now _
      · rw [if_neg h2, if_neg h2]
        exact Ev.now _
  have key : ∀ d i : Nat, m - i = d → i ≤ m → Ev (fun k => ident_Parse.l0 k s q (m : Int) (i : Int) p (val 0 (q.data.toList.take i))) (prs s) := by
    intro d
    induction d with
    | zero =>
      intro i hd hi
      have e : i = m := by omega
      subst e
      rw [← hnum]
      refine Ev.step ?_ fin
      intro k
      simp only [ident_Parse.l0]
      rw [if_neg (by omega)]
    | succ d ih =>
      intro i hd hi
      have h1 : i < q.data.toList.length := by omega
      have hbt : bt q (i : Int) = (((q.data.toList)[i]).toNat : Int) := by
        have := bt_get q (i : Int) (by rw [Int.toNat_natCast]; omega)
        rw [this]
        simp only [Int.toNat_natCast]
        rfl
      have hv := val_bd i (q.data.toList.take i) (by rw [List.length_take]; omega)
      have hp8 : (10 : Int) ^ i ≤ 10 ^ 8 := by have h_ := Nat.pow_le_pow_right (n := 10) (by omega) (show i ≤ 8 by omega); exact_mod_cast h_
      have hp8' : (10 : Int) ^ 8 = 100000000 := by decide
      have hx := idx_bd (q.data.toList)[i]
      have hmx : mx (idx (q.data.toList)[i]) 0 = max (idx (q.data.toList)[i]) 0 := by unfold mx; split <;> omega
      have hta : q.data.toList.take (i + 1) = q.data.toList.take i ++ [(q.data.toList)[i]] := List.take_succ_eq_append_getElem h1
      have ihn := ih (i + 1) (by omega) (by omega)
      rw [hta, val_app] at ihn
      have hib : strings_IndexByte.f D (bt q (i : Int)) = some (idx (q.data.toList)[i]) := by
        unfold strings_IndexByte.f idx
        rw [hbt, Int.toNat_natCast]
        congr 2
        exact UInt8.ofNat_toNat
      refine Ev.step (f := fun k => ident_Parse.l0 k s q (m : Int) ((i + 1 : Nat) : Int) p (10 * val 0 (q.data.toList.take i) + max (idx (q.data.toList)[i]) 0)) (fun k => ?_) ihn
      simp only [ident_Parse.l0]
      rw [if_pos (by omega), if_pos (by omega), if_pos (by omega), hib, Option.bind_some, wrap_nat i (by omega), hmx, wrap64_in (10 * _) (by omega), wrap64_in _ (by omega)]
  refine Ev.congr (f := fun k => ident_Parse.l0 k s q (m : Int) ((0 : Nat) : Int) p (val 0 (q.data.toList.take 0))) (fun k => ?_) (key m 0 rfl (by omega))
  unfold ident_Parse.f strings_Cut.f
  rw [if_pos (by omega), Option.bind_some, ← hq, ← hp, ← hmn, ← hq]
  rfl
theorem cut_at (p l : List UInt8) (h : (35 : UInt8) ∉ p) : Lib.cut (p ++ 35 :: l) [35] = (p, l, true) := by
  have hi : Lib.index (p ++ 35 :: l) [35] = (p.length : Int) := by
    refine Lib.index_first (by simp) ?_ ?_
    · unfold Lib.occAt
      rw [List.drop_left]
      simp [List.isPrefixOf]
    · intro j hj
      unfold Lib.occAt
      rw [List.drop_append_of_le_length (by omega), List.drop_eq_getElem_cons hj]
      have hne : p[j] ≠ 35 := fun e => h (e ▸ List.getElem_mem hj)
      simp only [List.cons_append, List.isPrefixOf, Bool.and_true]
      exact beq_eq_false_iff_ne.2 (fun e => hne e.symm)
  unfold Lib.cut
  rw [hi, if_pos (by omega), Int.toNat_natCast, List.take_left]
  simp
theorem back (p : ByteArray) (n : Int) (h : idR p n = true) : prs (txt p n) = (p, n, 0) := by
  obtain ⟨h0, h1, h2⟩ := idR_bound p n h
  obtain ⟨m, rfl⟩ : ∃ m : Nat, n = (m : Int) := ⟨n.toNat, by omega⟩
  have ht : txt p (m : Int) = B (p.data.toList ++ 35 :: dg 6 m) := by unfold txt; rw [if_pos h, Int.toNat_natCast]
  have hd : (txt p (m : Int)).data.toList = p.data.toList ++ 35 :: dg 6 m := by rw [ht, B_data]
  have hbf : bef (txt p (m : Int)) = p := by unfold bef; rw [hd, cut_at _ _ h2]
  have haf : aft (txt p (m : Int)) = B (dg 6 m) := by unfold aft; rw [hd, cut_at _ _ h2]; rfl
  have hnm : num (txt p (m : Int)) = (m : Int) := by
    unfold num
    rw [haf, B_data, List.take_of_length_le (by have := dg_len 6 m; omega)]
    exact val_dg 6 m (by omega)
  unfold prs
  rw [if_neg (fun e => by rw [txt_empty, h] at e; cases e), hbf, hnm, if_pos rfl]
theorem prs_ok (s : ByteArray) : (prs s).2.2 = 0 → s.toList ≠ [] ∧ txt (prs s).1 (prs s).2.1 = s := by
  unfold prs
  by_cases h : s.toList = []
  · rw [if_pos h]
    intro e
    exact absurd e (by decide)
  · rw [if_neg h]
    by_cases h2 : (txt (bef s) (num s)).toList = s.toList
    · rw [if_pos h2]
      exact fun _ => ⟨h, toList_inj.1 h2⟩
    · rw [if_neg h2]
      intro e
      exact absurd e (by decide)
theorem prs_bad (s : ByteArray) : (prs s).2.2 ≠ 0 → prs s = (B [], 0, 6) := by
  unfold prs
  by_cases h : s.toList = []
  · rw [if_pos h]
    exact fun _ => rfl
  · rw [if_neg h]
    by_cases h2 : (txt (bef s) (num s)).toList = s.toList
    · rw [if_pos h2]
      intro e
      exact absurd rfl e
    · rw [if_neg h2]
      exact fun _ => rfl
theorem prs_size (s : ByteArray) : (prs s).1.size ≤ s.size := by
  unfold prs
  split
  · simp [B_size]
  · split
    · exact (bef_size s).1
    · simp [B_size]
/-- What the law asks of the second text. -/
def tailF (k : Nat) (s : ByteArray) : Option Bool := (ident_Parse.f k s).bind fun bt196 => (if bt196.2.2 = 0 then ((rafterlaw11_awake.f k).bind fun t200 => (if t200 = true then (if s.toList = ([] : List UInt8) then (some false) else ((rafterref11_Text.f k bt196.1 bt196.2.1).bind fun t201 => (some (t201.toList == s.toList)))) else (some false))) else ((rafterlaw11_awake.f k).bind fun t202 => (if t202 = true then (if (bt196.1.toList == ([] : List UInt8) && (bt196.2.1 == 0)) = true then (some (bt196.2.2 == 6)) else (some false)) else (some false))))
theorem tail_ev (s : ByteArray) (hs : s.size ≤ 1000) : Ev (fun k => tailF k s) true := by
  have hz := prs_size s
  have hok := prs_ok s
  have hbad := prs_bad s
  refine Ev.bind (parse_ev s hs) ?_
  obtain ⟨q, hq⟩ : ∃ q, prs s = q := ⟨_, rfl⟩
  rw [hq] at hz hok hbad ⊢
  by_cases h : q.2.2 = 0
  · obtain ⟨h1, h2⟩ := hok h
    refine Ev.congr (fun k => by rw [if_pos h]) (Ev.bind awake_ev ?_)
    refine Ev.congr (fun k => by rw [if_pos rfl, if_neg h1]) (Ev.bind (text11_ev q.1 q.2.1 (by omega)) ?_)
    rw [h2]
    exact Ev.congr (f := fun _ => some true) (fun k => by simp) (Ev.now _)
  · refine Ev.congr (fun k => by rw [if_neg h]) (Ev.bind awake_ev ?_)
    rw [hbad h]
    refine Ev.congr (f := fun _ => some true) (fun k => ?_) (Ev.now _)
    rw [if_pos rfl, if_pos (by simp [toList_data, B])]
    rfl
theorem IdentTexts : rafterlaw11_IdentTexts.Pure := by
  intro x s _ _
  obtain ⟨p, n⟩ := x
  refine Ev.rounds ?_
  show Ev (fun k => rafterlaw11_IdentTexts.f k p n s) true
  have ha : Ev (fun k => (rafterlaw11_awake.f k).bind fun t => some t) true := Ev.bind awake_ev (Ev.now _)
  by_cases c1 : (p.size : Int) > 100
  · exact Ev.congr (fun k => by unfold rafterlaw11_IdentTexts.f; rw [if_pos c1]) ha
  by_cases c2 : (s.size : Int) > 100
  · exact Ev.congr (fun k => by unfold rafterlaw11_IdentTexts.f; rw [if_neg c1, if_pos c2]) ha
  have ht := tail_ev s (by omega)
  have hr : ∀ k : Nat, ident_Right.f p n = some (idR p n) := fun _ => right_f p n (by omega)
  refine Ev.congr (fun k => by unfold rafterlaw11_IdentTexts.f; rw [if_neg c1, if_neg c2]) (Ev.bind (text_ev p n (by omega)) ?_)
  refine Ev.congr (fun k => by rw [hr k, Option.bind_some]) (Ev.bind (right11_ev p n (by omega)) ?_)
  refine Ev.congr (fun k => by rw [if_neg (by simp)]) (Ev.bind (text11_ev p n (by omega)) ?_)
  by_cases c3 : (txt p n).toList = []
  · exact Ev.congr (f := fun k => tailF k s) (fun k => by rw [if_pos rfl, if_pos c3]; rfl) ht
  · have hi : idR p n = true := by
      cases hi : idR p n with
      | true => rfl
      | false => exact absurd ((txt_empty p n).2 hi) c3
    have hsz : (txt p n).size ≤ 1000 := by
      have hl := dg_len 6 n.toNat
      have hp := data_length p
      unfold txt
      rw [if_pos hi, B_size, List.length_append, List.length_cons]
      omega
    have hpe := parse_ev (txt p n) hsz
    rw [back p n hi] at hpe
    refine Ev.congr (fun k => by rw [if_pos rfl, if_neg c3]) (Ev.bind hpe ?_)
    exact Ev.congr (f := fun k => tailF k s) (fun k => by rw [if_neg (by simp), if_pos rfl]; rfl) ht
end Go.Proofs.Ytgbdohidlndhjaa.Pure
