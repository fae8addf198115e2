/- Proved: what the functions that the laws NameStays and NameSets use come to, with enough rounds. Conditions stand in each lemma. -/
import Derived.Test.YtnegeacpfkcecaaXNamesx2
import Derived.Test.YtnegeacpfkcecaaXNamesx4
import Derived.Test.YtnegeacpfkcecaaESort
import Derived.Sort.Walk0
namespace Go.Proofs.Ytnegeacpfkcecaa.PureNames
open Go.RowKit Go.Proofs.Ytnegeacpfkcecaa.XNames Go.Proofs.YtnegeacpfkcecaaW.PrintWords Go.Proofs.YtnegeacpfkcecaaW.PrintLast
open Go.Proofs.Ytnegeacpfkcecaa.EName Go.Proofs.Ytnegeacpfkcecaa.ESort

theorem wrap_nat (i : Nat) (h : i < 9223372036854775807) : wrap64 ((i : Int) + 1) = ((i + 1 : Nat) : Int) := by
  unfold wrap64
  omega
theorem rd_nat (l : List ByteArray) (i : Nat) (h : i < l.length) : rdOf ByteArray.empty l (i : Int) = l[i] := by
  unfold rdOf
  rw [Int.toNat_natCast, List.getD_eq_getElem?_getD, List.getElem?_eq_getElem h]
  rfl

/-! ### rafterref01.Same -/
theorem same_ev (a b : List ByteArray) (h : a.length ≤ 9223372036854775807) : Ev (fun k => rafterref01_Same.f k a b) (decide (a = b)) := by
  by_cases hl : a.length = b.length
  · have key : ∀ d i : Nat, a.length - i = d → i ≤ a.length → a.take i = b.take i → Ev (fun k => rafterref01_Same.l0 k a b (i : Int)) (decide (a = b)) := by
      intro d
      induction d with
      | zero =>
        intro i hd hi ht
        have hi' : i = a.length := by omega
        subst hi'
        have hab : a = b := by rw [List.take_length, hl, List.take_length] at ht; exact ht
        refine Ev.step (f := fun _ => some (decide (a = b))) (fun k => ?_) (Ev.now _)
        simp only [rafterref01_Same.l0]
        rw [if_neg (by omega)]
        simp [hab]
      | succ d ih =>
        intro i hd hi ht
        have h1 : i < a.length := by omega
        have h2 : i < b.length := by omega
        by_cases he : a[i] = b[i]
        · refine Ev.step (f := fun k => rafterref01_Same.l0 k a b ((i + 1 : Nat) : Int)) (fun k => ?_) (ih (i + 1) (by omega) (by omega) (by rw [List.take_succ_eq_append_getElem h1, List.take_succ_eq_append_getElem h2, ht, he]))
          simp only [rafterref01_Same.l0]
          rw [if_pos (by omega), if_pos (by omega), if_pos (by omega), rd_nat a i h1, rd_nat b i h2, if_pos (by rw [he]), wrap_nat i (by omega)]
        · have hab : ¬ a = b := fun e => he (by subst e; rfl)
          refine Ev.step (f := fun _ => some (decide (a = b))) (fun k => ?_) (Ev.now _)
          simp only [rafterref01_Same.l0]
          rw [if_pos (by omega), if_pos (by omega), if_pos (by omega), rd_nat a i h1, rd_nat b i h2, if_neg (by rw [toList_inj]; exact he)]
          simp [hab]
    refine Ev.congr (f := fun k => rafterref01_Same.l0 k a b ((0 : Nat) : Int)) (fun k => ?_) (key _ 0 rfl (by omega) rfl)
    unfold rafterref01_Same.f
    rw [if_pos (by omega)]
    rfl
  · have hab : ¬ a = b := fun e => hl (by rw [e])
    refine Ev.congr (f := fun _ => some (decide (a = b))) (fun k => ?_) (Ev.now _)
    unfold rafterref01_Same.f
    rw [if_neg (by omega)]
    simp [hab]

/-! ### rafterlaw02.light -/
theorem light_ev (a : List ByteArray) (h : a.length ≤ 9223372036854775807) : ∃ b : Bool, Ev (fun k => rafterlaw02_light.f k a) b ∧ (b = true → a.length ≤ 40) := by
  have key : ∀ d i : Nat, a.length - i = d → i ≤ a.length → ∃ b : Bool, Ev (fun k => rafterlaw02_light.l0 k a (i : Int)) b ∧ (b = true → a.length ≤ 40) := by
    intro d
    induction d with
    | zero =>
      intro i hd hi
      refine ⟨decide ((a.length : Int) ≤ 40), Ev.step (f := fun _ => some (decide ((a.length : Int) ≤ 40))) (fun k => ?_) (Ev.now _), fun hb => by have := of_decide_eq_true hb; omega⟩
      simp only [rafterlaw02_light.l0]
      rw [if_neg (by omega)]
    | succ d ih =>
      intro i hd hi
      have h1 : i < a.length := by omega
      by_cases hs : (a[i].size : Int) > 100
      · refine ⟨false, Ev.step (f := fun _ => some false) (fun k => ?_) (Ev.now _), fun hb => by cases hb⟩
        simp only [rafterlaw02_light.l0]
        rw [if_pos (by omega), if_pos (by omega), rd_nat a i h1, if_pos hs]
      · obtain ⟨b, hb, hl⟩ := ih (i + 1) (by omega) (by omega)
        refine ⟨b, Ev.step (f := fun k => rafterlaw02_light.l0 k a ((i + 1 : Nat) : Int)) (fun k => ?_) hb, hl⟩
        simp only [rafterlaw02_light.l0]
        rw [if_pos (by omega), if_pos (by omega), rd_nat a i h1, if_neg hs, wrap_nat i (by omega)]
  exact key _ 0 rfl (by omega)

/-! ### rafterref02.Has -/
theorem hasB_cons (x : ByteArray) (l : List ByteArray) (s : ByteArray) : hasB (x :: l) s = (decide (s.toList = x.toList) || hasB l s) := rfl
theorem refhas_ev (l : List ByteArray) (s : ByteArray) (h : l.length ≤ 9223372036854775807) : Ev (fun k => rafterref02_Has.f k l s) (hasB l s) := by
  have key : ∀ d i : Nat, l.length - i = d → i ≤ l.length → Ev (fun k => rafterref02_Has.l0 k l s (i : Int)) (hasB (l.drop i) s) := by
    intro d
    induction d with
    | zero =>
      intro i hd hi
      refine Ev.step (f := fun _ => some (hasB (l.drop i) s)) (fun k => ?_) (Ev.now _)
      simp only [rafterref02_Has.l0]
      rw [if_neg (by omega), List.drop_of_length_le (by omega)]
      rfl
    | succ d ih =>
      intro i hd hi
      have h1 : i < l.length := by omega
      rw [List.drop_eq_getElem_cons h1, hasB_cons]
      by_cases he : l[i] = s
      · refine Ev.step (f := fun _ => some true) (fun k => ?_) (by simpa [he] using Ev.now true)
        simp only [rafterref02_Has.l0]
        rw [if_pos (by omega), if_pos (by omega), rd_nat l i h1, if_pos (by rw [he])]
      · refine Ev.step (f := fun k => rafterref02_Has.l0 k l s ((i + 1 : Nat) : Int)) (fun k => ?_) (by rw [decide_eq_false (by rw [toList_inj]; exact Ne.symm he), Bool.false_or]; exact ih (i + 1) (by omega) (by omega))
        simp only [rafterref02_Has.l0]
        rw [if_pos (by omega), if_pos (by omega), rd_nat l i h1, if_neg (by rw [toList_inj]; exact he), wrap_nat i (by omega)]
  exact key _ 0 rfl (by omega)

/-! ### rafterref02.Set -/
theorem take_drop_ins {out : List ByteArray} {v : ByteArray} {j : Nat} (hs : SL out) (hj : j ≤ out.length) (hlt : ∀ q (h : q < out.length), q < j → bs out[q] < bs v) (hge : ∀ h : j < out.length, bs v < bs out[j]) :
    SL (out.take j ++ [v] ++ out.drop j) := by
  unfold SL SS at *
  rw [List.pairwise_map] at *
  have h1 : (out.take j).Pairwise (fun a b => bs a < bs b) := hs.sublist (List.take_sublist _ _)
  have h2 : (out.drop j).Pairwise (fun a b => bs a < bs b) := hs.sublist (List.drop_sublist _ _)
  have h3 : ∀ x ∈ out.take j, bs x < bs v := by
    intro x hx
    obtain ⟨q, hq, rfl⟩ := List.getElem_of_mem hx
    rw [List.getElem_take]
    have : q < j := by simp at hq; omega
    exact hlt q (by omega) this
  have h4 : ∀ x ∈ out.drop j, bs v < bs x := by
    intro x hx
    rcases Nat.lt_or_ge j out.length with hjl | hjl
    · rw [List.drop_eq_getElem_cons hjl] at hx h2
      rcases List.mem_cons.1 hx with rfl | hx
      · exact hge hjl
      · exact List.lt_trans (hge hjl) ((List.pairwise_cons.1 h2).1 x hx)
    · rw [List.drop_of_length_le hjl] at hx
      cases hx
  refine List.pairwise_append.2 ⟨List.pairwise_append.2 ⟨h1, List.pairwise_singleton _ _, fun x hx y hy => ?_⟩, h2, fun x hx y hy => ?_⟩
  · rw [List.mem_singleton.1 hy]
    exact h3 x hx
  · rcases List.mem_append.1 hx with hx | hx
    · exact List.lt_trans (h3 x hx) (h4 y hy)
    · rw [List.mem_singleton.1 hx]
      exact h4 y hy

theorem set_l1 (l out : List ByteArray) (i : Nat) (hi : i < l.length) (hl : l.length < 1000000) (ho : out.length ≤ i) (hs : SL out) (Q : List ByteArray → List ByteArray → Prop)
    (next : ∀ out' : List ByteArray, SL out' → out'.length ≤ i + 1 → (∀ x, x ∈ out' ↔ x ∈ out ∨ x = l[i]) → ∃ r, Ev (fun k => rafterref02_Set.l0 k l out' ((i + 1 : Nat) : Int)) r ∧ Q out' r) :
    ∀ d j : Nat, out.length - j = d → j ≤ out.length → (∀ q (h : q < out.length), q < j → bs out[q] < bs l[i]) →
      ∃ out' r, Ev (fun k => rafterref02_Set.l1 k l out (i : Int) (j : Int)) r ∧ (∀ x, x ∈ out' ↔ x ∈ out ∨ x = l[i]) ∧ Q out' r := by
  intro d
  induction d with
  | zero =>
    intro j hd hj hlt
    have hjl : j = out.length := by omega
    subst hjl
    have hs' := take_drop_ins (v := l[i]) hs hj hlt (fun h => absurd h (by omega))
    obtain ⟨r, hr, hq⟩ := next _ hs' (by simp; omega) (fun x => by simp [or_comm])
    refine ⟨_, r, Ev.step (fun k => ?_) hr, fun x => by simp, hq⟩
    simp only [rafterref02_Set.l1, Option.bind_some]
    rw [if_neg (by omega), if_pos (by omega), if_pos (by omega), if_pos (by simp; omega), if_pos (by omega), if_pos (by omega), if_pos (by simp; omega), if_pos (by simp; omega), rd_nat l i hi, wrap_nat i (by omega)]
    simp only [Int.toNat_natCast, List.nil_append]
  | succ d ih =>
    intro j hd hj hlt
    have h1 : j < out.length := by omega
    by_cases hlt1 : bs out[j] < bs l[i]
    · obtain ⟨out', r, hr, hm, hq⟩ := ih (j + 1) (by omega) (by omega) (fun q h hq => by
        rcases Nat.lt_or_ge q j with h2 | h2
        · exact hlt q h h2
        · have : q = j := by omega
          subst this
          exact hlt1)
      refine ⟨out', r, Ev.step (fun k => ?_) hr, hm, hq⟩
      simp only [rafterref02_Set.l1]
      rw [if_pos (by omega), if_pos (by omega), if_pos (by omega), if_pos (by omega), rd_nat l i hi, rd_nat out j h1, if_pos (by rw [bytesLess_eq, toList_bs, toList_bs]; exact decide_eq_true hlt1), wrap_nat j (by omega)]
    · by_cases he : out[j] = l[i]
      · obtain ⟨r, hr, hq⟩ := next out hs (by omega) (fun x => ⟨.inl, fun h => by rcases h with h | rfl; exact h; rw [← he]; exact List.getElem_mem _⟩)
        refine ⟨out, r, Ev.step (fun k => ?_) hr, fun x => ⟨.inl, fun h => by rcases h with h | rfl; exact h; rw [← he]; exact List.getElem_mem _⟩, hq⟩
        simp only [rafterref02_Set.l1]
        rw [if_pos (by omega), if_pos (by omega), if_pos (by omega), if_pos (by omega), rd_nat l i hi, rd_nat out j h1, if_neg (by rw [bytesLess_eq, toList_bs, toList_bs]; simpa using hlt1), if_pos (by rw [he]), wrap_nat i (by omega)]
      · have hgt : bs l[i] < bs out[j] := by
          rcases Classical.em (bs l[i] < bs out[j]) with h | h
          · exact h
          · exact absurd (bs_inj (List.le_antisymm (List.not_lt.1 h) (List.not_lt.1 hlt1))) he
        have hs' := take_drop_ins (v := l[i]) hs hj hlt (fun _ => hgt)
        have hmem : ∀ x, x ∈ out.take j ++ [l[i]] ++ out.drop j ↔ x ∈ out ∨ x = l[i] := fun x => by
          have hm0 : x ∈ out ↔ x ∈ out.take j ∨ x ∈ out.drop j := by
            conv => lhs; rw [← List.take_append_drop j out]
            exact List.mem_append
          simp only [List.mem_append, List.mem_singleton, hm0]
          constructor
          · rintro ((h | h) | h)
            · exact .inl (.inl h)
            · exact .inr h
            · exact .inl (.inr h)
          · rintro ((h | h) | h)
            · exact .inl (.inl h)
            · exact .inr h
            · exact .inl (.inr h)
        obtain ⟨r, hr, hq⟩ := next _ hs' (by simp; omega) hmem
        refine ⟨_, r, Ev.step (fun k => ?_) hr, hmem, hq⟩
        simp only [rafterref02_Set.l1, Option.bind_some]
        rw [if_pos (by omega), if_pos (by omega), if_pos (by omega), if_pos (by omega), rd_nat l i hi, rd_nat out j h1, if_neg (by rw [bytesLess_eq, toList_bs, toList_bs]; simpa using hlt1), if_neg (by rw [toList_inj]; exact he), if_pos (by omega), if_pos (by simp; omega), if_pos (by simp; omega), if_pos (by simp; omega), wrap_nat i (by omega)]
        simp only [Int.toNat_natCast, List.nil_append]

theorem refset_ev (l : List ByteArray) (hl : l.length < 1000000) : Ev (fun k => rafterref02_Set.f k l) (setL l) := by
  have key : ∀ d i : Nat, l.length - i = d → i ≤ l.length → ∀ out : List ByteArray, SL out → out.length ≤ i → ∃ r, Ev (fun k => rafterref02_Set.l0 k l out (i : Int)) r ∧ SL r ∧ ∀ x, x ∈ r ↔ x ∈ out ∨ x ∈ l.drop i := by
    intro d
    induction d with
    | zero =>
      intro i hd hi out hs ho
      refine ⟨out, Ev.step (f := fun _ => some out) (fun k => ?_) (Ev.now _), hs, fun x => by rw [List.drop_of_length_le (by omega)]; simp⟩
      simp only [rafterref02_Set.l0]
      rw [if_neg (by omega)]
    | succ d ih =>
      intro i hd hi out hs ho
      have h1 : i < l.length := by omega
      obtain ⟨out', r, hr, hm, hq1, hq2⟩ := set_l1 l out i h1 hl ho hs (fun out' r => SL r ∧ ∀ x, x ∈ r ↔ x ∈ out' ∨ x ∈ l.drop (i + 1)) (fun out' h1 h2 _ => ih (i + 1) (by omega) (by omega) out' h1 h2) _ 0 rfl (by omega) (fun q _ hq => absurd hq (by omega))
      refine ⟨r, Ev.step (fun k => ?_) hr, hq1, fun x => ?_⟩
      · simp only [rafterref02_Set.l0]
        rw [if_pos (by omega)]
        rfl
      · rw [hq2, hm, List.drop_eq_getElem_cons h1, List.mem_cons]
        constructor
        · rintro ((h | h) | h)
          · exact .inl h
          · exact .inr (.inl h)
          · exact .inr (.inr h)
        · rintro (h | h | h)
          · exact .inl (.inl h)
          · exact .inl (.inr h)
          · exact .inr h
  obtain ⟨r, hr, h1, h2⟩ := key _ 0 rfl (by omega) [] List.Pairwise.nil (by simp)
  have e : r = setL l := setL_of h1 fun x => by simpa using h2 x
  subst e
  exact hr

/-! ### rafterref02.Keep -/
theorem keep_ev (a b : List ByteArray) (inn : Bool) (ha : a.length < 1000000) (hb : b.length ≤ 9223372036854775807) : Ev (fun k => rafterref02_Keep.f k a b inn) (setL (a.filter fun s => hasB b s == inn)) := by
  have key : ∀ d i : Nat, a.length - i = d → i ≤ a.length → ∀ out : List ByteArray, out.length ≤ i → Ev (fun k => rafterref02_Keep.l0 k a b inn out (i : Int)) (setL (out ++ (a.drop i).filter fun s => hasB b s == inn)) := by
    intro d
    induction d with
    | zero =>
      intro i hd hi out ho
      rw [List.drop_of_length_le (by omega), List.filter_nil, List.append_nil]
      refine Ev.step (fun k => ?_) (Ev.bind (f := fun _ t => some t) (refset_ev out (by omega)) (Ev.now _))
      simp only [rafterref02_Keep.l0]
      rw [if_neg (by omega)]
    | succ d ih =>
      intro i hd hi out ho
      have h1 : i < a.length := by omega
      rw [List.drop_eq_getElem_cons h1, List.filter_cons]
      by_cases hk : (hasB b a[i] == inn) = true
      · rw [if_pos hk]
        have hn := ih (i + 1) (by omega) (by omega) (out ++ [a[i]]) (by simp; omega)
        rw [List.append_assoc, List.singleton_append] at hn
        refine Ev.step (f := fun k => (rafterref02_Has.f k b a[i]).bind fun t220 => if (t220 == inn) = true then rafterref02_Keep.l0 k a b inn (out ++ [a[i]]) ((i + 1 : Nat) : Int) else rafterref02_Keep.l0 k a b inn out ((i + 1 : Nat) : Int)) (fun k => ?_) (Ev.bind (refhas_ev b a[i] hb) (by simp only [hk, if_true]; exact hn))
        simp only [rafterref02_Keep.l0]
        rw [if_pos (by omega), if_pos (by omega), rd_nat a i h1, wrap_nat i (by omega), if_pos (by omega)]
      · rw [if_neg hk]
        have hn := ih (i + 1) (by omega) (by omega) out (by omega)
        refine Ev.step (f := fun k => (rafterref02_Has.f k b a[i]).bind fun t220 => if (t220 == inn) = true then rafterref02_Keep.l0 k a b inn (out ++ [a[i]]) ((i + 1 : Nat) : Int) else rafterref02_Keep.l0 k a b inn out ((i + 1 : Nat) : Int)) (fun k => ?_) (Ev.bind (refhas_ev b a[i] hb) (by simp only [hk]; exact hn))
        simp only [rafterref02_Keep.l0]
        rw [if_pos (by omega), if_pos (by omega), rd_nat a i h1, wrap_nat i (by omega), if_pos (by omega)]
  have h := key _ 0 rfl (by omega) [] (by simp)
  rw [List.nil_append, List.drop_zero] at h
  exact h

/-! ### name.Union -/
theorem union_ev (a b : List ByteArray) (ha : a.length < 1000000) (hb : b.length < 1000000) : Ev (fun k => name_Union.f k a b) (setL (a ++ b)) := by
  have h1 : Ev (fun k => slices_Concat_string_string.f k [a, b]) (a ++ b) := by
    refine ⟨8, fun k hk => ?_⟩
    obtain ⟨k, rfl⟩ : ∃ m, k = m + 8 := ⟨k - 8, by omega⟩
    have w0 : wrap64 (0 + (a.length : Int)) = (a.length : Int) := by unfold wrap64; omega
    have w1 : wrap64 ((a.length : Int) + (b.length : Int)) = ((a.length + b.length : Nat) : Int) := by unfold wrap64; omega
    have r0 : rd_L1 [a, b] 0 = a := rfl
    have r1 : rd_L1 [a, b] 1 = b := rfl
    have i0 : wrap64 (0 + 1) = 1 := by decide +kernel
    have i1 : wrap64 (1 + 1) = 2 := by decide +kernel
    have g : slices_Grow_string_string.f [] ((a.length + b.length : Nat) : Int) = some [] := by
      unfold slices_Grow_string_string.f
      rw [if_pos rfl, if_pos (by omega), if_pos (by rw [Int.toNat_natCast]; omega)]
    unfold slices_Concat_string_string.f
    simp only [slices_Concat_string_string.l0, List.length_cons, List.length_nil]
    rw [if_pos (by decide), if_pos (by decide), if_pos (by decide), r0, w0, if_neg (by omega), i0, if_pos (by decide), if_pos (by decide), if_pos (by decide), r1, w1, if_neg (by omega), i1, if_neg (by decide), g]
    simp only [Option.bind_some, slices_Concat_string_string.l1, List.length_cons, List.length_nil]
    rw [if_pos (by decide), if_pos (by decide), if_pos (by decide), r0, if_pos (by simp; omega), i0, if_pos (by decide), if_pos (by decide), if_pos (by decide), r1, if_pos (by simp; omega), i1, if_neg (by decide)]
    simp
  refine Ev.bind (f := fun k t => (name_Set.f t).bind fun t139 => some t139) h1 ?_
  unfold name_Set.f
  rw [if_pos (by simp; omega)]
  exact Ev.now _

theorem minus_eq (a b : List ByteArray) (ha : a.length < 1000000) (hb : b.length < 1000000) : name_Minus.f a b = some (setL (a.filter fun s => hasB b s == false)) := by
  unfold name_Minus.f
  rw [if_pos (by omega), if_pos (by omega), setL_filter]
  simp
theorem both_eq (a b : List ByteArray) (ha : a.length < 1000000) (hb : b.length < 1000000) : name_Both.f a b = some (setL (a.filter fun s => hasB b s == true)) := by
  unfold name_Both.f
  rw [if_pos (by omega), if_pos (by omega), setL_filter]
  simp
theorem within_eq (a b : List ByteArray) (ha : a.length < 1000000) (hb : b.length < 1000000) : name_Within.f a b = some (((setL (a.filter fun s => hasB b s == false)).length : Int) == 0) := by
  unfold name_Within.f
  rw [minus_eq a b ha hb]
  rfl
theorem set_eq (a : List ByteArray) (ha : a.length < 1000000) : name_Set.f a = some (setL a) := by
  unfold name_Set.f
  rw [if_pos (by omega)]

/-! ### name.Has -/
theorem index_l (l : List ByteArray) (s : ByteArray) (hn : l.length ≤ 140737488355328) : Ev (fun k => name_Has.f k l s) (hasB l s) := by
  have key : ∀ d i : Nat, l.length - i = d → i ≤ l.length → ∃ r : Int, Ev (fun k => slices_Index_string_string.l0 k l s (l.length : Int) (i : Int)) r ∧ decide (r ≥ 0) = hasB (l.drop i) s := by
    intro d
    induction d with
    | zero =>
      intro i hd hi
      refine ⟨-1, Ev.step (f := fun _ => some (-1)) (fun k => ?_) (Ev.now _), by rw [List.drop_of_length_le (by omega)]; rfl⟩
      simp only [slices_Index_string_string.l0]
      rw [if_neg (by omega)]
    | succ d ih =>
      intro i hd hi
      have h1 : i < l.length := by omega
      rw [List.drop_eq_getElem_cons h1, hasB_cons]
      by_cases he : s = l[i]
      · refine ⟨i, Ev.step (f := fun _ => some (i : Int)) (fun k => ?_) (Ev.now _), by simp [he]⟩
        simp only [slices_Index_string_string.l0]
        rw [if_pos (by omega), if_pos (by omega), if_pos (by omega), rd_nat l i h1, if_pos (by rw [← he])]
      · obtain ⟨r, hr, hb⟩ := ih (i + 1) (by omega) (by omega)
        refine ⟨r, Ev.step (fun k => ?_) hr, by rw [hb, decide_eq_false (by rw [toList_inj]; exact he), Bool.false_or]⟩
        simp only [slices_Index_string_string.l0]
        rw [if_pos (by omega), if_pos (by omega), if_pos (by omega), rd_nat l i h1, if_neg (by rw [toList_inj]; exact he), wrap_nat i (by omega)]
  obtain ⟨r, hr, hb⟩ := key _ 0 rfl (by omega)
  have h2 : Ev (fun k => (slices_Index_string_string.f k l s).bind fun t => some (decide (t ≥ 0))) (hasB l s) := Ev.bind (f := fun _ t => some (decide (t ≥ 0))) hr (by rw [hb]; exact Ev.now _)
  exact Ev.bind (f := fun _ t => some t) h2 (Ev.now _)

/-! ### awake -/
theorem sort_bab : sortB [[98], [97], [98]] = [[97], [98], [98]] := by
  simp [sortB, List.mergeSort, List.MergeSort.Internal.splitInTwo, List.merge]
  rw [if_neg (by decide)]
  simp only [List.merge]
  decide +kernel
theorem sort_ab : sortB [[97], [98]] = [[97], [98]] := by
  simp [sortB, List.mergeSort, List.MergeSort.Internal.splitInTwo, List.merge]
  intro h
  exact absurd h (by decide)
theorem set_bab : setL [⟨#[98]⟩, ⟨#[97]⟩, ⟨#[98]⟩] = [⟨#[97]⟩, ⟨#[98]⟩] := by
  unfold setL setB
  rw [show ([⟨#[98]⟩, ⟨#[97]⟩, ⟨#[98]⟩] : List ByteArray).map bs = [[98], [97], [98]] from rfl, sort_bab]
  decide +kernel
theorem awake_ev : Ev (fun k => rafterlaw02_awake.f k) true := by
  refine Ev.of (k := 5) (fun k => rafterlaw02_awake.mono k) ?_
  have h1 : name_Set.f [⟨#[98]⟩, ⟨#[97]⟩, ⟨#[98]⟩] = some [⟨#[97]⟩, ⟨#[98]⟩] := by
    unfold name_Set.f
    rw [set_bab]
    rfl
  have h2 : setL [⟨#[97]⟩, ⟨#[98]⟩] = [⟨#[97]⟩, ⟨#[98]⟩] := by
    unfold setL setB
    rw [show ([⟨#[97]⟩, ⟨#[98]⟩] : List ByteArray).map bs = [[97], [98]] from rfl, sort_ab]
    decide +kernel
  have h3 : setL [] = [] := setL_nil
  have r1 : name_Right.f ⟨#[97, 45, 49]⟩ = some true := by decide +kernel
  have r2 : name_Right.f ⟨#[46, 46]⟩ = some false := by decide +kernel
  have r3 : name_Right.f ⟨#[65]⟩ = some false := by decide +kernel
  have r4 : name_Has.f 5 [⟨#[97]⟩, ⟨#[98]⟩] ⟨#[98]⟩ = some true := by decide +kernel
  have r5 : name_Minus.f [⟨#[97]⟩, ⟨#[98]⟩] [⟨#[97]⟩, ⟨#[98]⟩] = some [] := by
    unfold name_Minus.f
    rw [h2]
    decide +kernel
  have r6 : name_Within.f [] [⟨#[97]⟩, ⟨#[98]⟩] = some true := by
    unfold name_Within.f name_Minus.f
    rw [h3]
    decide +kernel
  unfold rafterlaw02_awake.f
  simp only [h1, r1, r2, r3, r4, r5, r6, Option.bind_some, if_true, if_false, Bool.false_eq_true]
  decide +kernel
end Go.Proofs.Ytnegeacpfkcecaa.PureNames
