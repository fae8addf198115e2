/- Proved: the law NameSets answers true for any two lists of texts and any text: the sets of name.Set, Has, Union, Minus, Both, Within and Same are the reference's. No condition. -/
import Derived.Test.YtnegeacpfkcecaaPureNames
namespace Go.Proofs.Ytnegeacpfkcecaa.Pure
open Go.RowKit Go.Proofs.Ytnegeacpfkcecaa.XNames Go.Proofs.YtnegeacpfkcecaaW.PrintWords Go.Proofs.YtnegeacpfkcecaaW.PrintLast
open Go.Proofs.Ytnegeacpfkcecaa.EName Go.Proofs.Ytnegeacpfkcecaa.ESort Go.Proofs.Ytnegeacpfkcecaa.PureNames

theorem same_self (a : List ByteArray) (h : a.length ≤ 9223372036854775807) : Ev (fun k => rafterref01_Same.f k a a) true := by
  have := same_ev a a h
  simpa using this
theorem setL_len (l : List ByteArray) (h : l.length < 1000000) : (setL l).length ≤ 9223372036854775807 := by
  have h1 : (setL l).length ≤ l.length := by
    unfold setL setB Lib.compact Lib.compactUpTo
    rw [List.length_map, List.length_map]
    refine Nat.le_trans (List.length_filter_le _ _) ?_
    simp [sortB]
  omega
theorem filter_len (l : List ByteArray) (p : ByteArray → Bool) (h : l.length ≤ 40) : (l.filter p).length ≤ 40 := Nat.le_trans (List.length_filter_le _ _) h

theorem last_step (m n : Nat) (hm : m ≤ 1000000) (hn : n ≤ 1000000) : ((if ((m : Int) == 0) = true then some ((n : Int) == 0) else some false).bind fun t => some (t == (wrap64 ((m : Int) + (n : Int)) == 0))) = some true := by
  have hw : wrap64 ((m : Int) + (n : Int)) = ((m + n : Nat) : Int) := by unfold wrap64; omega
  rw [hw]
  by_cases h : m = 0
  · subst h
    simp
  · have e1 : ((m : Int) == 0) = false := beq_eq_false_iff_ne.2 (by omega)
    have e2 : (((m + n : Nat) : Int) == 0) = false := beq_eq_false_iff_ne.2 (by omega)
    rw [e1, e2]
    rfl

theorem sets_j0 (a b : List ByteArray) (s : ByteArray) (c : Bool) (h : c = false → a.length ≤ 40 ∧ b.length ≤ 40) : Ev (fun k => rafterlaw02_NameSets.j0 k a b s c) true := by
  cases c with
  | true =>
    refine Ev.step (f := fun k => (rafterlaw02_awake.f k).bind fun t => some t) (fun k => ?_) (Ev.bind (f := fun _ t => some t) awake_ev (Ev.now _))
    simp only [rafterlaw02_NameSets.j0, if_true]
  | false =>
    obtain ⟨h1, h2⟩ := h rfl
    have f1 := filter_len a (fun s => hasB b s == false) h1
    have f2 := filter_len a (fun s => hasB b s == true) h1
    have f3 := filter_len b (fun s => hasB a s == false) h2
    obtain ⟨K1, u1⟩ := refset_ev (a ++ b) (by simp; omega)
    obtain ⟨K2, u2⟩ := keep_ev a b false (by omega) (by omega)
    obtain ⟨K3, u3⟩ := keep_ev a b true (by omega) (by omega)
    obtain ⟨K4, u4⟩ := keep_ev b a false (by omega) (by omega)
    obtain ⟨K5, u5⟩ := awake_ev
    obtain ⟨K6, u6⟩ := refset_ev a (by omega)
    obtain ⟨K7, u7⟩ := same_self (setL a) (setL_len _ (by omega))
    obtain ⟨K8, u8⟩ := index_l a s (by omega)
    obtain ⟨K9, u9⟩ := refhas_ev a s (by omega)
    obtain ⟨K10, u10⟩ := union_ev a b (by omega) (by omega)
    obtain ⟨K11, u11⟩ := same_self (setL (a ++ b)) (setL_len _ (by simp; omega))
    obtain ⟨K12, u12⟩ := same_self (setL (a.filter fun s => hasB b s == false)) (setL_len _ (by omega))
    obtain ⟨K13, u13⟩ := same_self (setL (a.filter fun s => hasB b s == true)) (setL_len _ (by omega))
    refine ⟨K1 + K2 + K3 + K4 + K5 + K6 + K7 + K8 + K9 + K10 + K11 + K12 + K13 + 1, fun k hk => ?_⟩
    obtain ⟨k, rfl⟩ : ∃ m, k = m + 1 := ⟨k - 1, by omega⟩
    have v1 := u1 k (by omega)
    have v2 := u2 k (by omega)
    have v3 := u3 k (by omega)
    have v4 := u4 k (by omega)
    have v5 := u5 k (by omega)
    have v6 := u6 k (by omega)
    have v7 := u7 k (by omega)
    have v8 := u8 k (by omega)
    have v9 := u9 k (by omega)
    have v10 := u10 k (by omega)
    have v11 := u11 k (by omega)
    have v12 := u12 k (by omega)
    have v13 := u13 k (by omega)
    dsimp only at v1 v2 v3 v4 v5 v6 v7 v8 v9 v10 v11 v12 v13
    have l1 := setL_len (a.filter fun s => hasB b s == false) (by omega)
    have l2 := setL_len (b.filter fun s => hasB a s == false) (by omega)
    have g1 : (setL (a.filter fun s => hasB b s == false)).length ≤ 1000000 := by
      have : (setL (a.filter fun s => hasB b s == false)).length ≤ (a.filter fun s => hasB b s == false).length := by
        unfold setL setB Lib.compact Lib.compactUpTo
        rw [List.length_map, List.length_map]
        refine Nat.le_trans (List.length_filter_le _ _) ?_
        simp [sortB]
      omega
    have g2 : (setL (b.filter fun s => hasB a s == false)).length ≤ 1000000 := by
      have : (setL (b.filter fun s => hasB a s == false)).length ≤ (b.filter fun s => hasB a s == false).length := by
        unfold setL setB Lib.compact Lib.compactUpTo
        rw [List.length_map, List.length_map]
        refine Nat.le_trans (List.length_filter_le _ _) ?_
        simp [sortB]
      omega
    simp only [rafterlaw02_NameSets.j0, Option.bind_some, List.nil_append, Bool.false_eq_true, if_false, List.length_nil]
    rw [if_pos (by omega), if_pos (by omega), v1, v2, v3, v4, v5]
    simp only [Option.bind_some, if_true]
    rw [set_eq a (by omega), v6]
    simp only [Option.bind_some]
    rw [v7]
    simp only [Option.bind_some, if_true]
    rw [v8, v9]
    simp only [Option.bind_some, beq_self_eq_true, if_true]
    rw [v10]
    simp only [Option.bind_some]
    rw [v11]
    simp only [Option.bind_some, if_true]
    rw [minus_eq a b (by omega) (by omega)]
    simp only [Option.bind_some]
    rw [v12]
    simp only [Option.bind_some, if_true]
    rw [both_eq a b (by omega) (by omega)]
    simp only [Option.bind_some]
    rw [v13]
    simp only [Option.bind_some, if_true]
    rw [within_eq a b (by omega) (by omega)]
    simp only [Option.bind_some, beq_self_eq_true, if_true]
    unfold name_Same.f
    rw [within_eq a b (by omega) (by omega), within_eq b a (by omega) (by omega)]
    simp only [Option.bind_some]
    clear u1 u2 u3 u4 u5 u6 u7 u8 u9 u10 u11 u12 u13 v1 v2 v3 v4 v5 v6 v7 v8 v9 v10 v11 v12 v13 l1 l2 f1 f2 f3 hk
    exact last_step _ _ g1 g2

theorem NameSets : rafterlaw02_NameSets.Pure := by
  intro a b s ha _ hb _ _
  refine Ev.rounds ?_
  obtain ⟨x, hx, hxl⟩ := light_ev a ha
  obtain ⟨y, hy, hyl⟩ := light_ev b hb
  refine Ev.bind hx ?_
  cases x with
  | false =>
    simp only [Bool.false_eq_true, if_false]
    exact sets_j0 a b s true (fun h => by cases h)
  | true =>
    simp only [if_true]
    refine Ev.bind hy ?_
    refine sets_j0 a b s _ fun h => ⟨hxl rfl, hyl ?_⟩
    cases y
    · cases h
    · rfl
end Go.Proofs.Ytnegeacpfkcecaa.Pure
