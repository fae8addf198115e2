/- Proved: what the functions that the law IdentSets uses come to, with enough rounds. Conditions stand in each lemma. -/
import Derived.Test.YtgbdohidlndhjaaXIsx4
import Derived.Test.YtgbdohidlndhjaaXIsx5
import Derived.Test.YtgbdohidlndhjaaXIsx6
import Derived.Test.YtgbdohidlndhjaaXIsx7
import Derived.Test.YtgbdohidlndhjaaPureIsOrd
import Derived.Test.YtgbdohidlndhjaaPureIsCore
namespace Go.Proofs.Ytgbdohidlndhjaa.IsSets
set_option linter.unusedVariables false
set_option linter.unusedSimpArgs false
open Go.RowKit Go.Proofs.Ytgbdohidlndhjaa.XIs Go.Proofs.YtgbdohidlndhjaaW.PrintWords Go.Proofs.YtgbdohidlndhjaaW.PrintLast Go.Proofs.YtgbdohidlndhjaaW.PrintMore
open Go.Proofs.Ytgbdohidlndhjaa.IsCore Go.Proofs.Ytgbdohidlndhjaa.IsOrd
open Go.Proofs.Ytgbdohidlndhjaa.EName (bs setL)
theorem rd_nat (l : List ByteArray) (i : Nat) (h : i < l.length) : rdOf ByteArray.empty l (i : Int) = l[i] := by
  unfold rdOf
  rw [Int.toNat_natCast, List.getD_eq_getElem?_getD, List.getElem?_eq_getElem h]
  rfl
theorem drop_cons {α : Type} (l : List α) (i : Nat) (h : i < l.length) : l.drop i = l[i] :: l.drop (i + 1) := List.drop_eq_getElem_cons h
/-! ### The one order and the other -/
theorem less_f (x y : S23) : rafterref11_Less.f x.f0 x.f1 y.f0 y.f1 = some (decide (ltP x y)) := by
  unfold rafterref11_Less.f
  rw [toL, toL]
  by_cases h : x.f0 = y.f0
  · rw [if_pos (by rw [h])]
    congr 1
    rw [decide_eq_decide]
    unfold ltP
    rw [h]
    exact ⟨fun h1 => .inr ⟨rfl, h1⟩, fun h1 => by
      rcases h1 with h1 | h1
      · exact absurd h1 (List.lt_irrefl _)
      · exact h1.2⟩
  · rw [if_neg (fun e => h (bs_inj e)), bytesLess_lt]
    congr 1
    rw [decide_eq_decide]
    unfold ltP
    exact ⟨.inl, fun h1 => by
      rcases h1 with h1 | h1
      · exact h1
      · exact absurd h1.1 h⟩
theorem iless_ev (x y : S23) : Ev (fun k => ident_Less.f k x.f0 x.f1 y.f0 y.f1) (decide (ltP x y)) := by
  have h : Ev (fun k => ident_order.f k x.f0 x.f1 y.f0 y.f1) (ordI x y) := Ev.of (fun k => ident_order.mono _ _ _ _ k) (order_ev x y)
  refine Ev.bind h ?_
  have e : decide (ordI x y < 0) = decide (ltP x y) := ltOf_eq x y
  rw [e]
  exact Ev.now _
/-! ### Has -/
theorem has_ev (l : List S23) (x : S23) (hl : l.length ≤ 1000000) : Ev (fun k => ident_Has.f k l x.f0 x.f1) (decide (x ∈ l)) := by
  have key : ∀ d i : Nat, l.length - i = d → i ≤ l.length → ∃ q : Int, Ev (fun k => slices_Index_api_Id_api_Id.l0 k l (l.length : Int) (i : Int) x.f0 x.f1) q ∧ decide (q ≥ 0) = decide (x ∈ l.drop i) := by
    intro d
    induction d with
    | zero =>
      intro i hd hi
      refine ⟨-1, Ev.step (f := fun _ => some (-1)) (fun k => ?_) (Ev.now _), ?_⟩
      · simp only [slices_Index_api_Id_api_Id.l0]
        rw [if_neg (by omega)]
      · rw [List.drop_of_length_le (by omega)]
        simp
    | succ d ih =>
      intro i hd hi
      have h1 : i < l.length := by omega
      rw [drop_cons l i h1]
      by_cases he : x = l[i]
      · refine ⟨(i : Int), Ev.step (f := fun _ => some (i : Int)) (fun k => ?_) (Ev.now _), ?_⟩
        · simp only [slices_Index_api_Id_api_Id.l0]
          rw [if_pos (by omega), if_pos (by omega), if_pos (by omega), rdT l i h1, if_pos (by rw [eq23]; exact decide_eq_true he)]
        · rw [decide_eq_true (by omega), decide_eq_true (by rw [he]; exact List.mem_cons_self)]
      · obtain ⟨q, hq, e⟩ := ih (i + 1) (by omega) (by omega)
        refine ⟨q, Ev.step (fun k => ?_) hq, ?_⟩
        · simp only [slices_Index_api_Id_api_Id.l0]
          rw [if_pos (by omega), if_pos (by omega), if_pos (by omega), rdT l i h1, if_neg (by rw [eq23]; simpa using he), wrap_nat i (by omega)]
        · rw [e, decide_eq_decide, List.mem_cons]
          exact ⟨.inr, fun h => h.resolve_left he⟩
  obtain ⟨q, hq, e⟩ := key l.length 0 rfl (by omega)
  rw [List.drop_zero] at e
  have h1 : Ev (fun k => slices_Index_api_Id_api_Id.f k l x.f0 x.f1) q := hq
  have h2 : Ev (fun k => slices_Contains_api_Id_api_Id.f k l x.f0 x.f1) (decide (x ∈ l)) := Ev.bind h1 (by rw [← e]; exact Ev.now _)
  exact Ev.bind h2 (Ev.now _)
theorem rhas_ev (l : List S23) (x : S23) (hl : l.length ≤ 1000000) : Ev (fun k => rafterref11_Has.f k l x.f0 x.f1) (decide (x ∈ l)) := by
  have key : ∀ d i : Nat, l.length - i = d → i ≤ l.length → Ev (fun k => rafterref11_Has.l0 k l (i : Int) x.f0 x.f1) (decide (x ∈ l.drop i)) := by
    intro d
    induction d with
    | zero =>
      intro i hd hi
      rw [List.drop_of_length_le (by omega)]
      refine Ev.step (f := fun _ => some false) (fun k => ?_) (Ev.now _)
      simp only [rafterref11_Has.l0]
      rw [if_neg (by omega)]
    | succ d ih =>
      intro i hd hi
      have h1 : i < l.length := by omega
      rw [drop_cons l i h1]
      by_cases he : l[i] = x
      · rw [decide_eq_true (show x ∈ l[i] :: l.drop (i + 1) by rw [he]; exact List.mem_cons_self)]
        refine Ev.step (f := fun _ => some true) (fun k => ?_) (Ev.now _)
        simp only [rafterref11_Has.l0]
        rw [if_pos (by omega), if_pos (by omega), rdT l i h1, if_pos (by rw [eq23]; exact decide_eq_true he)]
      · have e : decide (x ∈ l[i] :: l.drop (i + 1)) = decide (x ∈ l.drop (i + 1)) := by
          rw [decide_eq_decide, List.mem_cons]
          exact ⟨fun h => h.resolve_left (fun e => he e.symm), .inr⟩
        rw [e]
        refine Ev.step (fun k => ?_) (ih (i + 1) (by omega) (by omega))
        simp only [rafterref11_Has.l0]
        rw [if_pos (by omega), if_pos (by omega), rdT l i h1, if_neg (by rw [eq23]; simpa using he), wrap_nat i (by omega)]
  exact key l.length 0 rfl (by omega)
/-! ### Meet -/
def mt (a b : List S23) : Bool := a.any fun y => decide (y ∈ b)
theorem meet_ev (a b : List S23) (ha : a.length ≤ 1000000) (hb : b.length ≤ 1000000) : Ev (fun k => ident_Meet.f k a b) (mt a b) := by
  have one : ∀ y : S23, Ev (fun k => ident_Meet_1.f k y.f0 y.f1 [b]) (decide (y ∈ b)) := by
    intro y
    refine Ev.congr (f := fun k => (ident_Has.f k b y.f0 y.f1).bind fun t => some t) (fun k => ?_) (Ev.bind (has_ev b y hb) (Ev.now _))
    unfold ident_Meet_1.f
    rw [if_pos (by simp)]
    rfl
  have key : ∀ d i : Nat, a.length - i = d → i ≤ a.length → ∃ q : Int, Ev (fun k => slices_IndexFunc_api_Id_api_Id__ident_Meet_1.l0 [b] k a (a.length : Int) (i : Int)) q ∧ decide (q ≥ 0) = mt (a.drop i) b := by
    intro d
    induction d with
    | zero =>
      intro i hd hi
      refine ⟨-1, Ev.step (f := fun _ => some (-1)) (fun k => ?_) (Ev.now _), ?_⟩
      · simp only [slices_IndexFunc_api_Id_api_Id__ident_Meet_1.l0]
        rw [if_neg (by omega)]
      · rw [List.drop_of_length_le (by omega)]
        rfl
    | succ d ih =>
      intro i hd hi
      have h1 : i < a.length := by omega
      obtain ⟨q, hq, e⟩ := ih (i + 1) (by omega) (by omega)
      rw [drop_cons a i h1]
      by_cases he : a[i] ∈ b
      · refine ⟨(i : Int), Ev.step (f := fun k => (ident_Meet_1.f k a[i].f0 a[i].f1 [b]).bind fun t239 => (if t239 = true then (some (i : Int)) else (slices_IndexFunc_api_Id_api_Id__ident_Meet_1.l0 [b] k a (a.length : Int) ((i + 1 : Nat) : Int)))) (fun k => ?_) (Ev.bind (one a[i]) ?_), ?_⟩
        · simp only [slices_IndexFunc_api_Id_api_Id__ident_Meet_1.l0]
          rw [if_pos (by omega), if_pos (by omega), if_pos (by omega), rdT a i h1, wrap_nat i (by omega)]
        · rw [decide_eq_true he]
          exact Ev.congr (f := fun _ => some (i : Int)) (fun k => by rw [if_pos rfl]) (Ev.now _)
        · rw [decide_eq_true (by omega)]
          unfold mt
          rw [List.any_cons, decide_eq_true he, Bool.true_or]
      · refine ⟨q, Ev.step (f := fun k => (ident_Meet_1.f k a[i].f0 a[i].f1 [b]).bind fun t239 => (if t239 = true then (some (i : Int)) else (slices_IndexFunc_api_Id_api_Id__ident_Meet_1.l0 [b] k a (a.length : Int) ((i + 1 : Nat) : Int)))) (fun k => ?_) (Ev.bind (one a[i]) ?_), ?_⟩
        · simp only [slices_IndexFunc_api_Id_api_Id__ident_Meet_1.l0]
          rw [if_pos (by omega), if_pos (by omega), if_pos (by omega), rdT a i h1, wrap_nat i (by omega)]
        · rw [decide_eq_false he]
          exact Ev.congr (fun k => by rw [if_neg (by simp)]) hq
        · rw [e]
          unfold mt
          rw [List.any_cons, decide_eq_false he, Bool.false_or]
  obtain ⟨q, hq, e⟩ := key a.length 0 rfl (by omega)
  rw [List.drop_zero] at e
  have h1 : Ev (fun k => slices_IndexFunc_api_Id_api_Id__ident_Meet_1.f k a [b]) q := hq
  have h2 : Ev (fun k => slices_ContainsFunc_api_Id_api_Id__ident_Meet_1.f k a [b]) (mt a b) := Ev.bind h1 (by rw [← e]; exact Ev.now _)
  exact Ev.bind h2 (Ev.now _)
theorem rmeet_ev (a b : List S23) (ha : a.length ≤ 1000000) (hb : b.length ≤ 1000000) : Ev (fun k => rafterref11_Meet.f k a b) (mt a b) := by
  have key : ∀ d i : Nat, a.length - i = d → i ≤ a.length → Ev (fun k => rafterref11_Meet.l0 k a b (i : Int)) (mt (a.drop i) b) := by
    intro d
    induction d with
    | zero =>
      intro i hd hi
      rw [List.drop_of_length_le (by omega)]
      refine Ev.step (f := fun _ => some false) (fun k => ?_) (Ev.now _)
      simp only [rafterref11_Meet.l0]
      rw [if_neg (by omega)]
    | succ d ih =>
      intro i hd hi
      have h1 : i < a.length := by omega
      rw [drop_cons a i h1]
      refine Ev.step (f := fun k => (rafterref11_Has.f k b a[i].f0 a[i].f1).bind fun t244 => (if t244 = true then (some true) else (rafterref11_Meet.l0 k a b ((i + 1 : Nat) : Int)))) (fun k => ?_) (Ev.bind (rhas_ev b a[i] hb) ?_)
      · simp only [rafterref11_Meet.l0]
        rw [if_pos (by omega), if_pos (by omega), rdT a i h1, wrap_nat i (by omega)]
      · by_cases he : a[i] ∈ b
        · unfold mt
          rw [List.any_cons, decide_eq_true he, Bool.true_or]
          exact Ev.congr (f := fun _ => some true) (fun k => by rw [if_pos rfl]) (Ev.now _)
        · unfold mt
          rw [List.any_cons, decide_eq_false he, Bool.false_or]
          exact Ev.congr (fun k => by rw [if_neg (by simp)]) (ih (i + 1) (by omega) (by omega))
  exact key a.length 0 rfl (by omega)
/-! ### Same -/
theorem same_ev (l : List S23) (hl : l.length ≤ 1000000) : Ev (fun k => rafterref11_Same.f k l l) true := by
  have key : ∀ d i : Nat, l.length - i = d → i ≤ l.length → Ev (fun k => rafterref11_Same.l0 k l l (i : Int)) true := by
    intro d
    induction d with
    | zero =>
      intro i hd hi
      refine Ev.step (f := fun _ => some true) (fun k => ?_) (Ev.now _)
      simp only [rafterref11_Same.l0]
      rw [if_neg (by omega)]
    | succ d ih =>
      intro i hd hi
      have h1 : i < l.length := by omega
      refine Ev.step (fun k => ?_) (ih (i + 1) (by omega) (by omega))
      simp only [rafterref11_Same.l0]
      rw [if_pos (by omega), if_pos (by omega), if_pos (by omega), if_neg (by simp), wrap_nat i (by omega)]
  exact Ev.congr (fun k => by unfold rafterref11_Same.f; rw [if_pos rfl]; rfl) (key l.length 0 rfl (by omega))
theorem same1_ev (l : List ByteArray) (hl : l.length ≤ 1000000) : Ev (fun k => rafterref01_Same.f k l l) true := by
  have key : ∀ d i : Nat, l.length - i = d → i ≤ l.length → Ev (fun k => rafterref01_Same.l0 k l l (i : Int)) true := by
    intro d
    induction d with
    | zero =>
      intro i hd hi
      refine Ev.step (f := fun _ => some true) (fun k => ?_) (Ev.now _)
      simp only [rafterref01_Same.l0]
      rw [if_neg (by omega)]
    | succ d ih =>
      intro i hd hi
      have h1 : i < l.length := by omega
      refine Ev.step (fun k => ?_) (ih (i + 1) (by omega) (by omega))
      simp only [rafterref01_Same.l0]
      rw [if_pos (by omega), if_pos (by omega), if_pos (by omega), if_pos trivial, wrap_nat i (by omega)]
  exact Ev.congr (fun k => by unfold rafterref01_Same.f; rw [if_pos rfl]; rfl) (key l.length 0 rfl (by omega))
end Go.Proofs.Ytgbdohidlndhjaa.IsSets
