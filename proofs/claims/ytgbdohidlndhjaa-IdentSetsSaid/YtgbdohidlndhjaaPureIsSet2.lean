/- Proved: the references' Set, of names and of ids; ident.Patches; light. Conditions stand in each lemma. -/
import Derived.Test.YtgbdohidlndhjaaPureIsSets
namespace Go.Proofs.Ytgbdohidlndhjaa.IsSets
set_option linter.unusedVariables false
set_option linter.unusedSimpArgs false
open Go.RowKit Go.Proofs.Ytgbdohidlndhjaa.XIs Go.Proofs.YtgbdohidlndhjaaW.PrintWords Go.Proofs.YtgbdohidlndhjaaW.PrintLast Go.Proofs.YtgbdohidlndhjaaW.PrintMore
open Go.Proofs.Ytgbdohidlndhjaa.IsCore Go.Proofs.Ytgbdohidlndhjaa.IsOrd
open Go.Proofs.Ytgbdohidlndhjaa.EName (bs setL)
theorem take_mem {α : Type} (l : List α) (i : Nat) (h : i < l.length) (x : α) : x ∈ l.take (i + 1) ↔ x ∈ l.take i ∨ x = l[i] := by
  rw [List.take_succ_eq_append_getElem h, List.mem_append, List.mem_singleton]
/-! ### rafterref02.Set -/
theorem s2_j2 (l out : List ByteArray) (i j : Nat) (hi : i < l.length) (hl : l.length < 1000000) (ho : out.length ≤ i) (hj : j ≤ out.length) (hs : out.Pairwise ltB) (hlt : ∀ q (h : q < out.length), q < j → ltB out[q] l[i]) (hn : ∀ h : j < out.length, ¬ ltB out[j] l[i]) :
    ∃ out' : List ByteArray, out'.Pairwise ltB ∧ out'.length ≤ i + 1 ∧ (∀ x, x ∈ out' ↔ x ∈ out ∨ x = l[i]) ∧ ∀ r, Ev (fun k => rafterref02_Set.l0 k l out' ((i + 1 : Nat) : Int)) r → Ev (fun k => rafterref02_Set.j2 k l out (i : Int) (j : Int)) r := by
  by_cases h1 : j < out.length
  · by_cases he : out[j] = l[i]
    · refine ⟨out, hs, by omega, fun x => ⟨.inl, fun h => by rcases h with h | rfl; exact h; rw [← he]; exact List.getElem_mem _⟩, fun r hr => Ev.step (fun k => ?_) hr⟩
      simp only [rafterref02_Set.j2]
      rw [if_pos (by omega), if_pos (by omega), if_pos (by omega), if_pos (by omega), rd_nat l i hi, rd_nat out j h1, if_pos (by rw [he]), wrap_nat i (by omega)]
    · have hgt : ltB l[i] out[j] := by
        rcases Classical.em (ltB l[i] out[j]) with h | h
        · exact h
        · exact absurd (ltB_total (hn h1) h) he
      refine ⟨_, ins_pw (R := ltB) (fun h1 h2 => ltB_trans h1 h2) hs hj hlt (fun _ => hgt), by simp; omega, ins_mem, fun r hr => Ev.step (fun k => ?_) hr⟩
      simp only [rafterref02_Set.j2, Option.bind_some]
      rw [if_pos (by omega), if_pos (by omega), if_pos (by omega), if_pos (by omega), rd_nat l i hi, rd_nat out j h1, if_neg (by rw [toList_inj]; exact he), if_pos (by omega), if_pos (by simp; omega), if_pos (by simp; omega), if_pos (by simp; omega), wrap_nat i (by omega)]
      simp only [Int.toNat_natCast, List.nil_append]
  · have hjl : j = out.length := by omega
    refine ⟨_, ins_pw (R := ltB) (fun h1 h2 => ltB_trans h1 h2) hs hj hlt (fun h => absurd h h1), by simp; omega, ins_mem, fun r hr => Ev.step (fun k => ?_) hr⟩
    simp only [rafterref02_Set.j2, Option.bind_some]
    rw [if_neg (by omega), if_pos (by omega), if_pos (by omega), if_pos (by simp; omega), if_pos (by omega), if_pos (by omega), if_pos (by simp; omega), if_pos (by simp; omega), rd_nat l i hi, wrap_nat i (by omega)]
    simp only [Int.toNat_natCast, List.nil_append]
theorem s2_l1 (l out : List ByteArray) (i : Nat) (hi : i < l.length) (hl : l.length < 1000000) (ho : out.length ≤ i) (hs : out.Pairwise ltB) :
    ∀ d j : Nat, out.length - j = d → j ≤ out.length → (∀ q (h : q < out.length), q < j → ltB out[q] l[i]) →
    ∃ out' : List ByteArray, out'.Pairwise ltB ∧ out'.length ≤ i + 1 ∧ (∀ x, x ∈ out' ↔ x ∈ out ∨ x = l[i]) ∧ ∀ r, Ev (fun k => rafterref02_Set.l0 k l out' ((i + 1 : Nat) : Int)) r → Ev (fun k => rafterref02_Set.l1 k l out (i : Int) (j : Int)) r := by
  intro d
  induction d with
  | zero =>
    intro j hd hj hlt
    obtain ⟨out', h1, h2, h3, h4⟩ := s2_j2 l out i j hi hl ho hj hs hlt (fun h => absurd h (by omega))
    refine ⟨out', h1, h2, h3, fun r hr => Ev.step (fun k => ?_) (h4 r hr)⟩
    simp only [rafterref02_Set.l1]
    rw [if_neg (by omega)]
  | succ d ih =>
    intro j hd hj hlt
    have h1 : j < out.length := by omega
    by_cases hlt1 : ltB out[j] l[i]
    · obtain ⟨out', g1, g2, g3, g4⟩ := ih (j + 1) (by omega) (by omega) (fun q h hq => by
        rcases Nat.lt_or_ge q j with h2 | h2
        · exact hlt q h h2
        · have : q = j := by omega
          subst this
          exact hlt1)
      refine ⟨out', g1, g2, g3, fun r hr => Ev.step (fun k => ?_) (g4 r hr)⟩
      simp only [rafterref02_Set.l1]
      rw [if_pos (by omega), if_pos (by omega), if_pos (by omega), if_pos (by omega), rd_nat l i hi, rd_nat out j h1, if_pos (by rw [bytesLess_lt, toL, toL]; exact decide_eq_true hlt1), wrap_nat j (by omega)]
    · obtain ⟨out', g1, g2, g3, g4⟩ := s2_j2 l out i j hi hl ho hj hs hlt (fun _ => hlt1)
      refine ⟨out', g1, g2, g3, fun r hr => Ev.step (fun k => ?_) (g4 r hr)⟩
      simp only [rafterref02_Set.l1]
      rw [if_pos (by omega), if_pos (by omega), if_pos (by omega), if_pos (by omega), rd_nat l i hi, rd_nat out j h1, if_neg (by rw [bytesLess_lt, toL, toL]; exact fun h => hlt1 (show bs out[j] < bs l[i] from of_decide_eq_true h))]
theorem set2_ev (l : List ByteArray) (hl : l.length < 1000000) : Ev (fun k => rafterref02_Set.f k l) (setL l) := by
  have key : ∀ d i : Nat, l.length - i = d → i ≤ l.length → ∀ out : List ByteArray, out.Pairwise ltB → out.length ≤ i → (∀ x, x ∈ out ↔ x ∈ l.take i) → Ev (fun k => rafterref02_Set.l0 k l out (i : Int)) (setL l) := by
    intro d
    induction d with
    | zero =>
      intro i hd hi out hs ho hm
      rw [← setL_of hs (fun x => by rw [hm, List.take_of_length_le (by omega)])]
      refine Ev.step (f := fun _ => some out) (fun k => ?_) (Ev.now _)
      simp only [rafterref02_Set.l0]
      rw [if_neg (by omega)]
    | succ d ih =>
      intro i hd hi out hs ho hm
      have h1 : i < l.length := by omega
      obtain ⟨out', g1, g2, g3, g4⟩ := s2_l1 l out i h1 hl ho hs _ 0 rfl (by omega) (fun q _ hq => absurd hq (by omega))
      refine Ev.step (fun k => ?_) (g4 _ (ih (i + 1) (by omega) (by omega) out' g1 g2 (fun x => by rw [g3, hm, take_mem l i h1])))
      simp only [rafterref02_Set.l0]
      rw [if_pos (by omega)]
      rfl
  exact key l.length 0 rfl (by omega) [] List.Pairwise.nil (by simp) (by simp)
/-! ### rafterref11.Set -/
theorem s11_l1 (l out : List S23) (i : Nat) (hi : i < l.length) (hl : l.length < 1000000) (ho : out.length ≤ i) (hs : out.Pairwise ltP) (hv : l[i] ∉ out) :
    ∀ d j : Nat, out.length - j = d → j ≤ out.length → (∀ q (h : q < out.length), q < j → ltP out[q] l[i]) →
    ∃ out' : List S23, out'.Pairwise ltP ∧ out'.length ≤ i + 1 ∧ (∀ x, x ∈ out' ↔ x ∈ out ∨ x = l[i]) ∧ ∀ r, Ev (fun k => rafterref11_Set.l0 k l out' ((i + 1 : Nat) : Int)) r → Ev (fun k => rafterref11_Set.l1 k l out (i : Int) (j : Int)) r := by
  intro d
  induction d with
  | zero =>
    intro j hd hj hlt
    have hjl : j = out.length := by omega
    refine ⟨_, ins_pw (R := ltP) (fun h1 h2 => ltP_trans h1 h2) hs hj hlt (fun h => absurd h (by omega)), by simp; omega, ins_mem, fun r hr => Ev.step (fun k => ?_) hr⟩
    simp only [rafterref11_Set.l1, Option.bind_some]
    rw [if_neg (by omega), if_pos (by omega), if_pos (by omega), if_pos (by simp; omega), if_pos (by omega), if_pos (by omega), if_pos (by simp; omega), if_pos (by simp; omega), rdT l i hi, wrap_nat i (by omega)]
    simp only [Int.toNat_natCast, List.nil_append]
  | succ d ih =>
    intro j hd hj hlt
    have h1 : j < out.length := by omega
    by_cases hlt1 : ltP out[j] l[i]
    · obtain ⟨out', g1, g2, g3, g4⟩ := ih (j + 1) (by omega) (by omega) (fun q h hq => by
        rcases Nat.lt_or_ge q j with h2 | h2
        · exact hlt q h h2
        · have : q = j := by omega
          subst this
          exact hlt1)
      refine ⟨out', g1, g2, g3, fun r hr => Ev.step (fun k => ?_) (g4 r hr)⟩
      simp only [rafterref11_Set.l1]
      rw [if_pos (by omega), if_pos (by omega), if_pos (by omega), if_pos (by omega), rdT l i hi, rdT out j h1, less_f, Option.bind_some, if_pos (decide_eq_true hlt1), wrap_nat j (by omega)]
    · have hgt : ltP l[i] out[j] := by
        rcases Classical.em (ltP l[i] out[j]) with h | h
        · exact h
        · exact absurd (ltP_total hlt1 h) (fun e => hv (e ▸ List.getElem_mem _))
      refine ⟨_, ins_pw (R := ltP) (fun h1 h2 => ltP_trans h1 h2) hs hj hlt (fun _ => hgt), by simp; omega, ins_mem, fun r hr => Ev.step (fun k => ?_) hr⟩
      simp only [rafterref11_Set.l1, Option.bind_some]
      rw [if_pos (by omega), if_pos (by omega), if_pos (by omega), if_pos (by omega), rdT l i hi, rdT out j h1, less_f, Option.bind_some, if_neg (by simpa using hlt1), if_pos (by omega), if_pos (by simp; omega), if_pos (by simp; omega), if_pos (by simp; omega), wrap_nat i (by omega)]
      simp only [Int.toNat_natCast, List.nil_append]
theorem set11_ev (l : List S23) (hl : l.length < 1000000) : Ev (fun k => rafterref11_Set.f k l) (XIs.setT l) := by
  have key : ∀ d i : Nat, l.length - i = d → i ≤ l.length → ∀ out : List S23, out.Pairwise ltP → out.length ≤ i → (∀ x, x ∈ out ↔ x ∈ l.take i) → Ev (fun k => rafterref11_Set.l0 k l out (i : Int)) (XIs.setT l) := by
    intro d
    induction d with
    | zero =>
      intro i hd hi out hs ho hm
      rw [← setT_of hs (fun x => by rw [hm, List.take_of_length_le (by omega)])]
      refine Ev.step (f := fun _ => some out) (fun k => ?_) (Ev.now _)
      simp only [rafterref11_Set.l0]
      rw [if_neg (by omega)]
    | succ d ih =>
      intro i hd hi out hs ho hm
      have h1 : i < l.length := by omega
      refine Ev.step (f := fun k => (rafterref11_Has.f k out l[i].f0 l[i].f1).bind fun t189 => (if t189 = true then (rafterref11_Set.l0 k l out ((i + 1 : Nat) : Int)) else (rafterref11_Set.l1 k l out (i : Int) ((0 : Nat) : Int)))) (fun k => ?_) (Ev.bind (rhas_ev out l[i] (by omega)) ?_)
      · simp only [rafterref11_Set.l0]
        rw [if_pos (by omega), if_pos (by omega), rdT l i h1, wrap_nat i (by omega)]
        rfl
      · by_cases hv : l[i] ∈ out
        · rw [decide_eq_true hv]
          refine Ev.congr (fun k => by rw [if_pos rfl]) (ih (i + 1) (by omega) (by omega) out hs (by omega) (fun x => ?_))
          rw [take_mem l i h1, ← hm]
          exact ⟨.inl, fun h => by rcases h with h | rfl; exact h; exact hv⟩
        · rw [decide_eq_false hv]
          obtain ⟨out', g1, g2, g3, g4⟩ := s11_l1 l out i h1 hl ho hs hv _ 0 rfl (by omega) (fun q _ hq => absurd hq (by omega))
          exact Ev.congr (fun k => by rw [if_neg (by simp)]) (g4 _ (ih (i + 1) (by omega) (by omega) out' g1 g2 (fun x => by rw [g3, hm, take_mem l i h1])))
  exact key l.length 0 rfl (by omega) [] List.Pairwise.nil (by simp) (by simp)
/-! ### Patches, light -/
def pn : List S23 → List ByteArray
  | [] => []
  | x :: l => if x.f0.toList = [] then pn l else x.f0 :: pn l
theorem pn_len : ∀ l : List S23, (pn l).length ≤ l.length
  | [] => Nat.le_refl _
  | x :: l => by
    have := pn_len l
    unfold pn
    split <;> simp <;> omega
theorem patches_ev (l : List S23) (hl : l.length ≤ 100000) : Ev (fun k => ident_Patches.f k l) (setL (pn l)) := by
  have key : ∀ d i : Nat, l.length - i = d → i ≤ l.length → ∀ acc : List ByteArray, acc.length ≤ i → acc ++ pn (l.drop i) = pn l → Ev (fun k => ident_Patches.l0 k acc l (l.length : Int) (i : Int)) (setL (pn l)) := by
    intro d
    induction d with
    | zero =>
      intro i hd hi acc ha hp
      rw [List.drop_of_length_le (by omega), pn, List.append_nil] at hp
      subst hp
      have hn : name_Set.f (pn l) = some (setL (pn l)) := by unfold name_Set.f; rw [if_pos (by omega)]
      refine Ev.step (f := fun _ => some (setL (pn l))) (fun k => ?_) (Ev.now _)
      simp only [ident_Patches.l0]
      rw [if_neg (by omega), hn, Option.bind_some]
    | succ d ih =>
      intro i hd hi acc ha hp
      have h1 : i < l.length := by omega
      rw [drop_cons l i h1, pn] at hp
      by_cases he : l[i].f0.toList = []
      · rw [if_pos he] at hp
        refine Ev.step (fun k => ?_) (ih (i + 1) (by omega) (by omega) acc (by omega) hp)
        simp only [ident_Patches.l0]
        rw [if_pos (by omega), if_pos (by omega), if_pos (by omega), rdT l i h1, if_pos he, wrap_nat i (by omega)]
      · rw [if_neg he] at hp
        refine Ev.step (fun k => ?_) (ih (i + 1) (by omega) (by omega) (acc ++ [l[i].f0]) (by simp; omega) (by rw [List.append_assoc]; exact hp))
        simp only [ident_Patches.l0]
        rw [if_pos (by omega), if_pos (by omega), if_pos (by omega), rdT l i h1, if_neg he, if_pos (by omega), wrap_nat i (by omega)]
  exact key l.length 0 rfl (by omega) [] (by simp) (by simp)
theorem light_ev (l : List S23) (hl : l.length ≤ 9223372036854775807) : ∃ b, Ev (fun k => rafterlaw11_light.f k l) b ∧ (b = true → l.length ≤ 40) := by
  have key : ∀ d i : Nat, l.length - i = d → i ≤ l.length → ∃ b, Ev (fun k => rafterlaw11_light.l0 k l (i : Int)) b ∧ (b = true → l.length ≤ 40) := by
    intro d
    induction d with
    | zero =>
      intro i hd hi
      refine ⟨decide ((l.length : Int) ≤ 40), Ev.step (f := fun _ => some (decide ((l.length : Int) ≤ 40))) (fun k => ?_) (Ev.now _), fun h => by have := of_decide_eq_true h; omega⟩
      simp only [rafterlaw11_light.l0]
      rw [if_neg (by omega)]
    | succ d ih =>
      intro i hd hi
      have h1 : i < l.length := by omega
      by_cases hc : (l[i].f0.size : Int) > 100
      · refine ⟨false, Ev.step (f := fun _ => some false) (fun k => ?_) (Ev.now _), fun h => by cases h⟩
        simp only [rafterlaw11_light.l0]
        rw [if_pos (by omega), if_pos (by omega), rdT l i h1, if_pos hc]
      · obtain ⟨b, hb, h2⟩ := ih (i + 1) (by omega) (by omega)
        refine ⟨b, Ev.step (fun k => ?_) hb, h2⟩
        simp only [rafterlaw11_light.l0]
        rw [if_pos (by omega), if_pos (by omega), rdT l i h1, if_neg hc, wrap_nat i (by omega)]
  exact key l.length 0 rfl (by omega)
end Go.Proofs.Ytgbdohidlndhjaa.IsSets
