/- Proved: ident.order's answer is a total order on ids. No condition. -/
import Derived.Test.YtgbdohidlndhjaaEIdsA
import Derived.Test.YtgbdohidlndhjaaEIdsB
import Derived.Shelf.SlSortCmp.Insertion
namespace Go.Proofs.Ytgbdohidlndhjaa.XIs
open Go.Lib Go.Sort Go.RowKit Go.Proofs.YtgbdohidlndhjaaW.PrintWords
open Go.Proofs.Ytgbdohidlndhjaa.EName (bs unbs unbs_bs)
set_option linter.unusedVariables false
set_option linter.unusedSimpArgs false
def ordI (x y : S23) : Int := if ECmp.cmpS x.f0 y.f0 = 0 then (if x.f1 < y.f1 then -1 else if x.f1 > y.f1 then 1 else 0) else ECmp.cmpS x.f0 y.f0
def ltP (x y : S23) : Prop := bs x.f0 < bs y.f0 ∨ (x.f0 = y.f0 ∧ x.f1 < y.f1)
instance (x y : S23) : Decidable (ltP x y) := inferInstanceAs (Decidable (_ ∨ _))
theorem bs_inj {a b : ByteArray} (h : bs a = bs b) : a = b := by rw [← unbs_bs a, h, unbs_bs]
theorem toL (s : ByteArray) : s.toList = bs s := toListB s
theorem bytesLess_lt : ∀ (a b : List UInt8), Op.bytesLess a b = decide (a < b)
  | [], [] => by simp [Op.bytesLess]
  | _ :: _, [] => by simp [Op.bytesLess]
  | [], _ :: _ => by simp [Op.bytesLess]
  | x :: a, y :: b => by
    rw [Op.bytesLess, bytesLess_lt a b, Bool.eq_iff_iff]
    simp [List.cons_lt_cons_iff]
theorem cmpS_eq (a b : ByteArray) : ECmp.cmpS a b = if bs a < bs b then -1 else if a = b then 0 else 1 := by
  unfold ECmp.cmpS
  rw [toL, toL, bytesLess_lt]
  by_cases h1 : bs a < bs b
  · rw [if_pos h1, if_pos (by simpa using h1)]
  · rw [if_neg h1, if_neg (by simpa using h1)]
    by_cases h2 : a = b
    · subst h2
      rw [if_pos rfl, if_pos (by simp)]
    · rw [if_neg h2, if_neg (by simp; exact fun e => h2 (bs_inj e))]
theorem ltOf_eq (x y : S23) : ltOf ordI x y = decide (ltP x y) := by
  unfold ltOf
  rw [Bool.eq_iff_iff, decide_eq_true_eq, decide_eq_true_eq]
  unfold ordI ltP
  rw [cmpS_eq]
  by_cases h1 : bs x.f0 < bs y.f0
  · simp [h1]
  · by_cases h2 : x.f0 = y.f0
    · rw [if_neg h1, if_pos h2, if_pos rfl]
      by_cases h3 : x.f1 < y.f1
      · simp [h1, h2, h3]
      · rw [if_neg h3]
        by_cases h4 : x.f1 > y.f1
        · rw [if_pos h4]
          simp [h1, h3]
        · rw [if_neg h4]
          simp [h1, h3]
    · simp [h1, h2]
theorem ltP_irrefl (x : S23) : ¬ ltP x x := by
  rintro (h | ⟨_, h⟩)
  · exact List.lt_irrefl _ h
  · omega
theorem ltP_trans {x y z : S23} (h1 : ltP x y) (h2 : ltP y z) : ltP x z := by
  rcases h1 with h1 | ⟨e1, h1⟩
  · rcases h2 with h2 | ⟨e2, h2⟩
    · exact .inl (List.lt_trans h1 h2)
    · exact .inl (e2 ▸ h1)
  · rcases h2 with h2 | ⟨e2, h2⟩
    · exact .inl (e1 ▸ h2)
    · exact .inr ⟨e1.trans e2, by omega⟩
theorem ltP_total {x y : S23} (h1 : ¬ ltP x y) (h2 : ¬ ltP y x) : x = y := by
  have a1 : ¬ bs x.f0 < bs y.f0 := fun h => h1 (.inl h)
  have a2 : ¬ bs y.f0 < bs x.f0 := fun h => h2 (.inl h)
  have e : x.f0 = y.f0 := bs_inj (List.le_antisymm (List.not_lt.1 a2) (List.not_lt.1 a1))
  have b1 : ¬ x.f1 < y.f1 := fun h => h1 (.inr ⟨e, h⟩)
  have b2 : ¬ y.f1 < x.f1 := fun h => h2 (.inr ⟨e.symm, h⟩)
  obtain ⟨a, b⟩ := x
  obtain ⟨c, d⟩ := y
  simp only at e b1 b2
  subst e
  rw [show b = d by omega]
theorem swoI : SWO (ltOf ordI) where
  irrefl x := by rw [ltOf_eq]; simpa using ltP_irrefl x
  trans x y z h1 h2 := by rw [ltOf_eq] at *; simp at *; exact ltP_trans h1 h2
  ntrans x y z h1 h2 := by
    rw [ltOf_eq] at *
    simp at *
    intro h
    by_cases c : ltP y x
    · exact h2 (ltP_trans c h)
    · exact h2 (ltP_total h1 c ▸ h)
theorem totI (x y : S23) (h1 : ltOf ordI x y = false) (h2 : ltOf ordI y x = false) : x = y := by
  rw [ltOf_eq] at *
  simp at *
  exact ltP_total h1 h2
def leI (x y : S23) : Bool := !(ltOf ordI y x)
def setT (l : List S23) : List S23 := Lib.compact (l.mergeSort leI)
theorem order_ev (x y : S23) : ident_order.f 10 x.f0 x.f1 y.f0 y.f1 = some (ordI x y) := by
  have h1 : cmp_Compare_string.f x.f0 y.f0 = some (ECmp.cmpS x.f0 y.f0) := rfl
  have h2 : cmp_Compare_int.f x.f1 y.f1 = some (if x.f1 < y.f1 then -1 else if x.f1 > y.f1 then 1 else 0) := by
    unfold cmp_Compare_int.f cmp_isNaN_int.f
    simp only [Option.bind_some, bne_self_eq_false]
    rw [if_neg (by simp), if_neg (by simp)]
    split
    · rfl
    · split <;> rfl
  have h3 : ∀ a b : Int, cmp_Or_int.f 10 [a, b] = some (if a = 0 then b else a) := by
    intro a b
    have e1 : wrap64 (0 + 1) = 1 := by unfold wrap64; omega
    have e2 : wrap64 (1 + 1) = 2 := by unfold wrap64; omega
    have r0 : rd [a, b] 0 = a := rfl
    have r1 : rd [a, b] 1 = b := rfl
    unfold cmp_Or_int.f
    simp only [cmp_Or_int.l0, e1, e2, r0, r1]
    clear r0 r1
    by_cases h : a = 0
    · subst h
      by_cases h4 : b = 0
      · subst h4; rfl
      · simp [h4]
    · simp [h]
  unfold ident_order.f
  rw [h1, h2]
  simp only [Option.bind_some]
  rw [h3]
  rfl
theorem order_grow (x y : S23) (w : World) : Calls Try.prog 35 #[.agg #[.string x.f0, .int .i64 x.f1], .agg #[.string y.f0, .int .i64 y.f1]] w fun e w' => e = .returned (.int .i64 (ordI x y)) ∧ ∃ q os', w' = grow (w.drewN q) os' :=
  (ident_order.grows 10 _ _ _ _ _ w (order_ev x y)).mono fun e w' ⟨he, hb, hd⟩ => by
    refine ⟨he, w'.drawn - w.drawn, w'.heap.extract w.heap.size w'.heap.size, ?_⟩
    obtain ⟨heap, tape, drawn, os, output⟩ := w'
    obtain ⟨heap0, tape0, drawn0, os0, output0⟩ := w
    have h1 := hb.os
    have h2 := hb.tape
    have h3 := hb.output
    have h4 := hb.size
    have h5 := hb.block
    simp only at h1 h2 h3 h4 h5 hd
    subst h1 h2 h3
    have h6 : heap = heap0 ++ heap.extract heap0.size heap.size := by
      apply Array.ext_getElem?
      intro i
      rw [Array.getElem?_append]
      by_cases hi : i < heap0.size
      · rw [if_pos hi, h5 i hi]
      · rw [if_neg hi, Array.getElem?_extract]
        by_cases h7 : i < heap.size
        · rw [if_pos (by omega)]
          congr 1
          omega
        · rw [if_neg (by omega), Array.getElem?_eq_none (by omega)]
    simp only [grow, World.drewN]
    rw [← h6, show drawn0 + (drawn - drawn0) = drawn by omega]
end Go.Proofs.Ytgbdohidlndhjaa.XIs
