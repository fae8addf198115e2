/- Proved: the law IdentSets answers true for every two lists of ids and every id. No condition. -/
import Derived.Test.YtgbdohidlndhjaaXIsx8
import Derived.Test.YtgbdohidlndhjaaPureIsSet2
namespace Go.Proofs.Ytgbdohidlndhjaa.Pure
set_option linter.unusedVariables false
set_option linter.unusedSimpArgs false
open Go.RowKit Go.Proofs.Ytgbdohidlndhjaa.XIs Go.Proofs.YtgbdohidlndhjaaW.PrintWords Go.Proofs.YtgbdohidlndhjaaW.PrintLast
open Go.Proofs.Ytgbdohidlndhjaa.IsCore Go.Proofs.Ytgbdohidlndhjaa.IsSets
open Go.Proofs.Ytgbdohidlndhjaa.EName (setL)
/-- What the law asks of the lists, behind its first word. -/
def chain (k : Nat) (x0 x1 : List S23) (x7 : List ByteArray) (n : ByteArray) (m : Int) (fin : Option Bool) : Option Bool := (ident_Set.f x0).bind fun t302 => ((rafterref11_Set.f k x0).bind fun t305 => ((rafterref11_Same.f k t302 t305).bind fun t308 => (if t308 = true then ((ident_Has.f k x0 n m).bind fun t309 => ((rafterref11_Has.f k x0 n m).bind fun t310 => (if (t309 == t310) = true then ((ident_Meet.f k x0 x1).bind fun t311 => ((rafterref11_Meet.f k x0 x1).bind fun t312 => (if (t311 == t312) = true then ((ident_Patches.f k x0).bind fun t313 => ((rafterref02_Set.f k x7).bind fun t316 => ((rafterref01_Same.f k t313 t316).bind fun t319 => (if t319 = true then fin else (some false))))) else (some false)))) else (some false)))) else (some false))))
theorem setT_len (l : List S23) : (XIs.setT l).length ≤ l.length := by
  unfold XIs.setT
  exact Nat.le_trans (EIds.compact_len _) (by simp)
theorem setL_len (l : List ByteArray) : (setL l).length ≤ l.length := by
  unfold EName.setL EName.setB EName.sortB Lib.compact Lib.compactUpTo
  rw [List.length_map, List.length_map]
  exact Nat.le_trans (List.length_filter_le _ _) (by simp)
theorem chain_ev (a b : List S23) (x : S23) (ha : a.length ≤ 40) (hb : b.length ≤ 40) : Ev (fun k => chain k a b (pn a) x.f0 x.f1 (some true)) true := by
  have hs : ident_Set.f a = some (XIs.setT a) := by unfold ident_Set.f; rw [if_pos (by omega)]
  have hl := setT_len a
  have hp := pn_len a
  have hq := setL_len (pn a)
  refine Ev.congr (fun k => by unfold chain; rw [hs, Option.bind_some]) (Ev.bind (set11_ev a (by omega)) ?_)
  refine Ev.bind (same_ev _ (by omega)) ?_
  refine Ev.congr (fun k => by rw [if_pos rfl]) (Ev.bind (has_ev a x (by omega)) ?_)
  refine Ev.bind (rhas_ev a x (by omega)) ?_
  refine Ev.congr (fun k => by rw [if_pos (by simp)]) (Ev.bind (meet_ev a b (by omega) (by omega)) ?_)
  refine Ev.bind (rmeet_ev a b (by omega) (by omega)) ?_
  refine Ev.congr (fun k => by rw [if_pos (by simp)]) (Ev.bind (patches_ev a (by omega)) ?_)
  refine Ev.bind (set2_ev (pn a) (by omega)) ?_
  refine Ev.bind (same1_ev _ (by omega)) ?_
  exact Ev.congr (f := fun _ => some true) (fun k => by rw [if_pos rfl]) (Ev.now _)
theorem sets_ev (a b : List S23) (x : S23) (ha : a.length ≤ 40) (hb : b.length ≤ 40) : Ev (fun k => rafterlaw11_IdentSets.l0 k a b [] ((0 : Nat) : Int) x.f0 x.f1) true := by
  have key : ∀ d i : Nat, a.length - i = d → i ≤ a.length → ∀ acc : List ByteArray, acc.length ≤ i → acc ++ pn (a.drop i) = pn a → Ev (fun k => rafterlaw11_IdentSets.l0 k a b acc (i : Int) x.f0 x.f1) true := by
    intro d
    induction d with
    | zero =>
      intro i hd hi acc hac hp
      rw [List.drop_of_length_le (by omega), pn, List.append_nil] at hp
      subst hp
      have hc := chain_ev a b x ha hb
      by_cases h0 : a.length = 0
      · refine Ev.step (f := fun k => (rafterlaw11_awake.f k).bind fun t301 => (if t301 = true then chain k a b (pn a) x.f0 x.f1 (some true) else (some false))) (fun k => ?_) (Ev.bind awake_ev (Ev.congr (fun k => by rw [if_pos rfl]) hc))
        simp only [rafterlaw11_IdentSets.l0]
        rw [if_neg (by omega), if_pos (by omega)]
        rfl
      · have h1 : 0 < a.length := by omega
        have hr : rafterref11_Less.f a[0].f0 a[0].f1 x.f0 x.f1 = some (decide (ltP a[0] x)) := less_f a[0] x
        refine Ev.step (f := fun k => (ident_Less.f k a[0].f0 a[0].f1 x.f0 x.f1).bind fun t321 => ((rafterref11_Less.f a[0].f0 a[0].f1 x.f0 x.f1).bind fun t323 => ((rafterlaw11_awake.f k).bind fun t324 => (if t324 = true then chain k a b (pn a) x.f0 x.f1 (some (t321 == t323)) else (some false))))) (fun k => ?_) (Ev.bind (iless_ev a[0] x) ?_)
        · simp only [rafterlaw11_IdentSets.l0]
          rw [if_neg (by omega), if_neg (by omega), if_pos (by omega), show rd_T23 a 0 = a[0] from rdT a 0 h1]
          rfl
        · refine Ev.congr (fun k => by rw [hr, Option.bind_some]) (Ev.bind awake_ev ?_)
          exact Ev.congr (fun k => by rw [if_pos rfl, beq_self_eq_true]) hc
    | succ d ih =>
      intro i hd hi acc hac hp
      have h1 : i < a.length := by omega
      rw [drop_cons a i h1, pn] at hp
      by_cases he : a[i].f0.toList = []
      · rw [if_pos he] at hp
        refine Ev.step (fun k => ?_) (ih (i + 1) (by omega) (by omega) acc (by omega) hp)
        simp only [rafterlaw11_IdentSets.l0]
        rw [if_pos (by omega), if_pos (by omega), rdT a i h1, if_pos he, wrap_nat i (by omega)]
      · rw [if_neg he] at hp
        refine Ev.step (fun k => ?_) (ih (i + 1) (by omega) (by omega) (acc ++ [a[i].f0]) (by simp; omega) (by rw [List.append_assoc]; exact hp))
        simp only [rafterlaw11_IdentSets.l0]
        rw [if_pos (by omega), if_pos (by omega), rdT a i h1, if_neg he, if_pos (by omega), wrap_nat i (by omega)]
  exact key a.length 0 rfl (by omega) [] (by simp) (by simp)
theorem IdentSets : rafterlaw11_IdentSets.Pure := by
  intro a b x ha _ hb _ _
  refine Ev.rounds ?_
  have hw : Ev (fun k => (rafterlaw11_awake.f k).bind fun t => some t) true := Ev.bind awake_ev (Ev.now _)
  obtain ⟨p, hp, hp2⟩ := light_ev a ha
  obtain ⟨q, hq, hq2⟩ := light_ev b hb
  refine Ev.bind hp ?_
  cases p with
  | false => exact Ev.congr (fun k => by rw [if_neg (by simp)]) hw
  | true =>
    refine Ev.congr (fun k => by rw [if_pos rfl]) (Ev.bind hq ?_)
    cases q with
    | false => exact Ev.congr (fun k => by rw [if_neg (by simp)]) hw
    | true => exact Ev.congr (fun k => by rw [if_pos rfl]; rfl) (sets_ev a b x (hp2 rfl) (hq2 rfl))
end Go.Proofs.Ytgbdohidlndhjaa.Pure
