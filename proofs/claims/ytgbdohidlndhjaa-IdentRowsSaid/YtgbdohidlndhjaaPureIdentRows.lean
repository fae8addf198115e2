/- Proved: the law IdentRows answers true for every patch's name and every two numbers. No condition. -/
import Derived.Test.YtgbdohidlndhjaaXIdx0
import Derived.Test.YtgbdohidlndhjaaXIdx3
import Derived.Test.YtgbdohidlndhjaaXIdx4
import Derived.Test.YtgbdohidlndhjaaXIdx7
import Derived.Test.YtgbdohidlndhjaaPureIdentCore
namespace Go.Proofs.Ytgbdohidlndhjaa.Pure
set_option linter.unusedVariables false
set_option linter.unusedSimpArgs false
open Go.RowKit Go.Proofs.Ytgbdohidlndhjaa.XId Go.Proofs.YtgbdohidlndhjaaW.PrintWords Go.Proofs.YtgbdohidlndhjaaW.PrintLast Go.Proofs.YtgbdohidlndhjaaW.PrintMore
open Go.Proofs.Ytgbdohidlndhjaa.IdCore

/-- A patch's ids. -/
def ids (p : ByteArray) (a : Int) (n : Nat) : List S23 := (List.range n).map fun j : Nat => (⟨p, a + (j : Int)⟩ : S23)
theorem ids_len (p : ByteArray) (a : Int) (n : Nat) : (ids p a n).length = n := by simp [ids]
theorem ids_succ (p : ByteArray) (a : Int) (n : Nat) : ids p a (n + 1) = ids p a n ++ [⟨p, a + (n : Int)⟩] := by simp [ids, List.range_succ]
theorem ids_get (p : ByteArray) (a : Int) (n i : Nat) (h : i < (ids p a n).length) : (ids p a n)[i] = ⟨p, a + (i : Int)⟩ := by simp [ids]
theorem row_ev (p : ByteArray) (a : Int) (n : Nat) (h0 : 0 ≤ a) (h1 : a ≤ 1073741824) (n1 : 1 ≤ n) (n2 : n ≤ 300) : Ev (fun k => ident_Row.f k p a (n : Int)) (ids p a n) := by
  have key : ∀ d i : Nat, n - i = d → i ≤ n → Ev (fun k => ident_Row.l0 k p a (ids p a i ++ List.replicate (n - i) z23) (n : Int) (i : Int)) (ids p a n) := by
    intro d
    induction d with
    | zero =>
      intro i hd hi
      have e : i = n := by omega
      subst e
      refine Ev.step (f := fun _ => some (ids p a i)) (fun k => ?_) (Ev.now _)
      simp only [ident_Row.l0]
      rw [if_neg (by omega), Nat.sub_self, List.replicate_zero, List.append_nil]
    | succ d ih =>
      intro i hd hi
      have e1 : n - i = (n - (i + 1)) + 1 := by omega
      have hs : (ids p a i ++ List.replicate (n - i) z23).set i ⟨p, a + (i : Int)⟩ = ids p a (i + 1) ++ List.replicate (n - (i + 1)) z23 := by
        rw [e1, List.replicate_succ, List.set_append_right _ _ (by rw [ids_len]; exact Nat.le_refl _), ids_len, Nat.sub_self, List.set_cons_zero, ids_succ, List.append_assoc]
        rfl
      have hl : (ids p a i ++ List.replicate (n - i) z23).length = n := by rw [List.length_append, ids_len, List.length_replicate]; omega
      refine Ev.step (f := fun k => ident_Row.l0 k p a (ids p a (i + 1) ++ List.replicate (n - (i + 1)) z23) (n : Int) ((i + 1 : Nat) : Int)) (fun k => ?_) (ih (i + 1) (by omega) (by omega))
      simp only [ident_Row.l0]
      rw [if_pos (by omega), if_pos (by omega), if_pos (by omega), Int.toNat_natCast, wrap64_in (a + (i : Int)) (by omega), hs, wrap_nat i (by omega)]
  have k0 := key n 0 rfl (by omega)
  refine Ev.congr (f := fun k => ident_Row.j0 k p a (n : Int) false) (fun k => ?_) (Ev.step (f := fun k => ident_Row.l0 k p a (ids p a 0 ++ List.replicate (n - 0) z23) (n : Int) ((0 : Nat) : Int)) (fun k => ?_) k0)
  · unfold ident_Row.f
    rw [if_neg (by omega), if_neg (by omega), decide_eq_false (by omega)]
  · simp only [ident_Row.j0]
    rw [if_neg (by simp), if_pos (by omega), Int.toNat_natCast, if_pos (by omega), Option.bind_some, List.length_replicate]
    rfl
theorem row_none (p : ByteArray) (a n : Int) (h : a < 0 ∨ n < 1 ∨ n > 2000) : Ev (fun k => ident_Row.f k p a n) [] := by
  have h1 : Ev (fun k => ident_Row.j0 k p a n true) [] := Ev.step (f := fun _ => some []) (fun k => by simp only [ident_Row.j0]; rfl) (Ev.now _)
  by_cases c1 : a < 0
  · exact Ev.congr (fun k => by unfold ident_Row.f; rw [if_pos c1]) h1
  by_cases c2 : n < 1
  · exact Ev.congr (fun k => by unfold ident_Row.f; rw [if_neg c1, if_pos c2]) h1
  · exact Ev.congr (fun k => by unfold ident_Row.f; rw [if_neg c1, if_neg c2, decide_eq_true (by omega)]) h1
theorem IdentRows : rafterlaw11_IdentRows.Pure := by
  intro p a n _ ha hn
  refine Ev.rounds ?_
  have hbad : Ev (fun k => (rafterlaw11_awake.f k).bind fun t => some t) true := Ev.bind awake_ev (Ev.now _)
  have hnone : Ev (fun k => (rafterlaw11_awake.f k).bind fun t221 => (if t221 = true then (some (((([] : List S23)).length : Int) == 0)) else (some false))) true :=
    Ev.bind awake_ev (Ev.congr (f := fun _ => some true) (fun k => by rw [if_pos rfl]; rfl) (Ev.now _))
  by_cases c1 : a > 1073741824
  · exact Ev.congr (fun k => by unfold rafterlaw11_IdentRows.f; rw [if_pos c1]) hbad
  have tail : Ev (fun k => (ident_Row.f k p a n).bind fun t218 => (if a < 0 then ((rafterlaw11_awake.f k).bind fun t221 => (if t221 = true then (some ((t218.length : Int) == 0)) else (some false))) else (if n < 1 then ((rafterlaw11_awake.f k).bind fun t222 => (if t222 = true then (some ((t218.length : Int) == 0)) else (some false))) else (if n > 2000 then ((rafterlaw11_awake.f k).bind fun t223 => (if t223 = true then (some ((t218.length : Int) == 0)) else (some false))) else (rafterlaw11_IdentRows.l0 k p a n t218 0))))) true ∨ (300 < n ∧ n ≤ 2000) := by
    by_cases h1 : a < 0
    · exact .inl (Ev.bind (row_none p a n (.inl h1)) (Ev.congr (fun k => by rw [if_pos h1]) hnone))
    by_cases h2 : n < 1
    · exact .inl (Ev.bind (row_none p a n (.inr (.inl h2))) (Ev.congr (fun k => by rw [if_neg h1, if_pos h2]) hnone))
    by_cases h3 : n > 2000
    · exact .inl (Ev.bind (row_none p a n (.inr (.inr h3))) (Ev.congr (fun k => by rw [if_neg h1, if_neg h2, if_pos h3]) hnone))
    by_cases h4 : n > 300
    · exact .inr ⟨h4, by omega⟩
    obtain ⟨m, rfl⟩ : ∃ m : Nat, n = (m : Int) := ⟨n.toNat, by omega⟩
    refine .inl (Ev.bind (row_ev p a m (by omega) (by omega) (by omega) (by omega)) (Ev.congr (f := fun k => rafterlaw11_IdentRows.l0 k p a (m : Int) (ids p a m) ((0 : Nat) : Int)) (fun k => by rw [if_neg h1, if_neg h2, if_neg h3]; rfl) ?_))
    have key : ∀ d i : Nat, m - i = d → i ≤ m → Ev (fun k => rafterlaw11_IdentRows.l0 k p a (m : Int) (ids p a m) (i : Int)) true := by
      intro d
      induction d with
      | zero =>
        intro i hd hi
        refine Ev.step (f := fun k => (rafterlaw11_awake.f k).bind fun t226 => (if t226 = true then (some (((ids p a m).length : Int) == (m : Int))) else (some false))) (fun k => ?_) (Ev.bind awake_ev (Ev.congr (f := fun _ => some true) (fun k => by rw [if_pos rfl, ids_len]; simp) (Ev.now _)))
        simp only [rafterlaw11_IdentRows.l0]
        rw [if_neg (by rw [ids_len]; omega)]
      | succ d ih =>
        intro i hd hi
        have hil : i < (ids p a m).length := by rw [ids_len]; omega
        refine Ev.step (f := fun k => rafterlaw11_IdentRows.l0 k p a (m : Int) (ids p a m) ((i + 1 : Nat) : Int)) (fun k => ?_) (ih (i + 1) (by omega) (by omega))
        simp only [rafterlaw11_IdentRows.l0]
        rw [if_pos (by omega), if_pos (by omega), rdT _ i hil, ids_get, if_pos rfl, wrap64_in (a + (i : Int)) (by omega), if_pos rfl, wrap_nat i (by omega)]
    exact key m 0 rfl (by omega)
  by_cases c2 : n > 300
  · by_cases c3 : n ≤ 2000
    · exact Ev.congr (fun k => by unfold rafterlaw11_IdentRows.f; rw [if_neg c1, if_pos c2, if_pos c3]) hbad
    · rcases tail with h | h
      · exact Ev.congr (fun k => by unfold rafterlaw11_IdentRows.f; rw [if_neg c1, if_pos c2, if_neg c3]) h
      · omega
  · rcases tail with h | h
    · exact Ev.congr (fun k => by unfold rafterlaw11_IdentRows.f; rw [if_neg c1, if_neg c2]) h
    · omega
end Go.Proofs.Ytgbdohidlndhjaa.Pure
