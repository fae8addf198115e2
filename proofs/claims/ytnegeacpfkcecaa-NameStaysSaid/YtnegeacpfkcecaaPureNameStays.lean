/- Proved: the law NameStays answers true for any two lists of texts: what name.Set, Union, Minus and Both are handed stays as it was. No condition. -/
import Derived.Test.YtnegeacpfkcecaaPureNames
namespace Go.Proofs.Ytnegeacpfkcecaa.Pure
open Go.RowKit Go.Proofs.Ytnegeacpfkcecaa.XNames Go.Proofs.YtnegeacpfkcecaaW.PrintWords Go.Proofs.YtnegeacpfkcecaaW.PrintLast
open Go.Proofs.Ytnegeacpfkcecaa.EName Go.Proofs.Ytnegeacpfkcecaa.ESort Go.Proofs.Ytnegeacpfkcecaa.PureNames

theorem stays_j0 (a b : List ByteArray) (c : Bool) (h : c = false → a.length ≤ 40 ∧ b.length ≤ 40) : Ev (fun k => rafterlaw02_NameStays.j0 k a b c) true := by
  cases c with
  | true =>
    refine Ev.step (f := fun k => (rafterlaw02_awake.f k).bind fun t => some t) (fun k => ?_) (Ev.bind (f := fun _ t => some t) awake_ev (Ev.now _))
    simp only [rafterlaw02_NameStays.j0, if_true]
  | false =>
    obtain ⟨h1, h2⟩ := h rfl
    refine Ev.step (f := fun k => (name_Union.f k a b).bind fun _ => (rafterlaw02_awake.f k).bind fun t169 => (if t169 = true then ((rafterref01_Same.f k a a).bind fun t170 => (if t170 = true then ((rafterref01_Same.f k b b).bind fun t171 => (some t171)) else (some false))) else (some false))) (fun k => ?_) ?_
    · simp only [rafterlaw02_NameStays.j0, Option.bind_some, List.nil_append, Bool.false_eq_true, if_false, List.length_nil]
      rw [if_pos (by omega), if_pos (by omega), set_eq a (by omega), minus_eq a b (by omega) (by omega), both_eq a b (by omega) (by omega)]
      simp only [Option.bind_some]
    · refine Ev.bind (union_ev a b (by omega) (by omega)) (Ev.bind awake_ev ?_)
      simp only [if_true]
      refine Ev.bind (same_ev a a (by omega)) ?_
      simp only [decide_true, if_true]
      refine Ev.bind (same_ev b b (by omega)) ?_
      simp only [decide_true]
      exact Ev.now _

theorem NameStays : rafterlaw02_NameStays.Pure := by
  intro a b ha _ hb _
  refine Ev.rounds ?_
  obtain ⟨x, hx, hxl⟩ := light_ev a ha
  obtain ⟨y, hy, hyl⟩ := light_ev b hb
  refine Ev.bind hx ?_
  cases x with
  | false =>
    simp only [Bool.false_eq_true, if_false]
    exact stays_j0 a b true (fun h => by cases h)
  | true =>
    simp only [if_true]
    refine Ev.bind hy ?_
    refine stays_j0 a b _ fun h => ⟨hxl rfl, hyl ?_⟩
    cases y
    · cases h
    · rfl
end Go.Proofs.Ytnegeacpfkcecaa.Pure
