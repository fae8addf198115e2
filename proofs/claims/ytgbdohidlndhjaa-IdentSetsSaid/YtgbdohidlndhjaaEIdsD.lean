/- Proved: slices.Clone at ids; a row of ids of one's own, in the words of the library's sort, and back. Condition of Clone: the list's cells take fewer than 2^47 bytes. -/
import Derived.Test.YtgbdohidlndhjaaEIdsC
import Derived.Test.YtgbdohidlndhjaaEGen
namespace Go.Proofs.Ytgbdohidlndhjaa.XIs
open Go.Lib Go.Sort Go.RowKit Go.Proofs.YtgbdohidlndhjaaW.PrintWords Go.Proofs.YtgbdohidlndhjaaW.PrintLast Go.Proofs.YtgbdohidlndhjaaW.PrintMore
set_option linter.unusedVariables false
set_option linter.unusedSimpArgs false
theorem clone23 (A0 : Option Addr) (c0 : Nat) (l0 : List S23) (w : World) (hr0 : Kd.C k23 w A0 l0.length l0) (hl : l0.length * 24 ≤ 140737488355328) :
    Calls Try.prog 36 #[.slice A0 l0.length c0] w fun e w' => ∃ v0_ : Value, e = .returned v0_ ∧ Kd.R k23 23 w' w.heap.size (fun _ => True) v0_ l0 ∧ Below w.heap.size w w' := by
  have q22 : ∀ (w : World) (a : Option Addr) (n c n' c' : Nat), (binOp .eql 31 (.slice a n c) (.slice none n' c')).run Try.prog w = .ok (.bool a.isNone) w := fun w a n c n' c' => Lib.run_eql_slice_nil w _ _ a n c n' c' Try.underlying31
  rcases A0 with _ | ad
  · have h0 : l0 = [] := by
      rcases l0 with _ | ⟨x, l⟩
      · rfl
      · obtain ⟨ad, h, _⟩ := hr0.2.2 (by simp)
        cases h
    subst h0
    clear hr0
    go_enter Try.func36, Try.ntmps36
    go_wp2
    go_ret
    exact ⟨_, rfl, Kd.R_nil _ _ _ _ _, Below.refl _ _⟩
  · have HR0 := Aside0.mk hr0
    clear hr0
    go_enter Try.func36, Try.ntmps36
    go_wp2_with (first | ((with_reducible refine gate_dst (N := 5) rfl ?_); refine Kd.R_lit k23 w.heap.size 23 ?hg (N := 5) ?hd (xs := ([] : List S23)) (inner := []) (ok := fun _ => True) (okp := fun _ => True) ?hr ?hp (fun _ hk => hk) trivial (Below.refl _ _) (Nat.le_refl _) (by simp) ?_; (case hd => rfl); (case hg => rfl); (case hr => first | (go_simp; done) | (go_simp; rfl)); (case hp => exact (Reps.none _ _)); intro v2 w2 ho hb hg_ hnew_; clear hg_ hnew_; have HO := Aside0.mk ho; have HB := Aside0.mk hb; clear ho hb) | ((with_reducible refine gate_builtin (b := .append) (xs := #[.tmp 5, .tmp 6]) rfl ?_); at_builtin; refine Kd.R_append_rows k23 (w0 := w) w.heap.size rfl (.tmp 5) (.tmp 6) 31 23 (.agg #[(.string ⟨#[]⟩), (.int .i64 0)]) 24 rfl Try.underlying31 info23 rfl (by decide) (by omega) v2 [] l0 _ _ _ (fun _ => True) (fun _ => False) rfl rfl HO.out (Kd.C_below HR0.out HB.out) (fun _ _ h => h) (fun _ h => h.elim) (fun _ _ => trivial) HB.out HB.out.size (by simpa using hl) ?_; intro v3 w3 ho3 hb3 hg3 hat3; have HO3 := Aside0.mk ho3; have HB3 := Aside0.mk hb3; clear ho3 hb3 hg3 hat3))
    go_ret
    exact ⟨_, rfl, HO3.out, HB3.out⟩
theorem reps_get {w : World} {base : Nat} {ok : Nat → Prop} {l : List S23} {inner : List Value} (h : Reps (k23.M w base ok) 2 l inner) (t : Nat) (ht : t < l.length * 2) : inner[t]? = some ((encI l.toArray[t / 2]!)[t % 2]!) := by
  have hq : t / 2 < l.length := by omega
  have h1 := k23_openM (h.2 (t / 2) l[t / 2] (List.getElem?_eq_getElem hq))
  have h2 : l.toArray[t / 2]! = l[t / 2] := by rw [getElem!_pos l.toArray (t / 2) (by simpa using hq)]; simp
  have h3 : inner[t]? = ((inner.drop (t / 2 * 2)).take 2)[t % 2]? := by
    rw [List.getElem?_take, if_pos (by omega), List.getElem?_drop]
    congr 1
    omega
  rw [h3, h1, h2]
  have h4 : t % 2 = 0 ∨ t % 2 = 1 := by omega
  rcases h4 with e | e <;> rw [e] <;> rfl
theorem R_holds {w : World} {base : Nat} {ok : Nat → Prop} {v : Value} {l : List S23} (h : Kd.R k23 23 w base ok v l) :
    (v = .slice none 0 0 ∧ l = []) ∨ ∃ g cap cur, v = .slice (some ⟨g, 0, none⟩) l.length cap ∧ base ≤ g ∧ w.heap[g]? = some (.cells cur 23 (0, 0)) ∧ l.length ≤ cap ∧ cap ≤ maxLen ∧ cur.size = cap * 2 ∧ HoldsK encI 2 w g 0 l.toArray := by
  obtain ⟨_, inner, ho, hr⟩ := h
  rcases ho.2 with ⟨h1, h2⟩ | ⟨g, cap, cur, rfl, hb, hh, hn, hc, hs, ht⟩
  · exact .inl ⟨h1, List.eq_nil_of_length_eq_zero h2⟩
  · refine .inr ⟨g, cap, cur, rfl, hb, hh, hn, hc, hs, fun t htt => ?_⟩
    have ht2 : t < l.length * 2 := by simpa using htt
    refine ⟨?_, by simp [World.frozen?, hh]⟩
    have h1 := reps_get hr t ht2
    rw [← ht] at h1
    rw [List.getElem?_take, if_pos (by show t < l.length * 2; exact ht2), Array.getElem?_toList] at h1
    rw [Nat.zero_add, cell_of_row w g t cur 23 (0, 0) hh, h1, get_flatK _ _ _ t (by simpa using ht2)]
    rfl
theorem holds_R {w : World} {base g cap m : Nat} {D : Array S23} {cur : Array Value} (hh : w.heap[g]? = some (.cells cur 23 (0, 0))) (hb : base ≤ g) (hc : cap ≤ maxLen) (hs : cur.size = cap * 2) (hd : D.size ≤ cap) (hm : m ≤ D.size)
    (h : HoldsK encI 2 w g 0 D) : Kd.R k23 23 w base (fun _ => True) (.slice (some ⟨g, 0, none⟩) m cap) (D.toList.take m) := by
  have hl : (D.toList.take m).length = m := by simp; omega
  refine ⟨fun _ _ => trivial, cur.toList.take (m * 2), ⟨by rw [hl]; simp; show min (m * 2) cur.size = m * 2; omega, .inr ⟨g, cap, cur, by rw [hl], hb, hh, by rw [hl]; omega, hc, hs, by rw [hl]; rfl⟩⟩, ⟨by rw [hl]; simp; show min (m * 2) cur.size = m * 2; omega, fun j p hj => ?_⟩⟩
  have hjm : j < m := by
    rcases Nat.lt_or_ge j m with h1 | h1
    · exact h1
    · rw [List.getElem?_eq_none (by rw [hl]; exact h1)] at hj
      cases hj
  have hp : D[j]! = p := by
    rw [List.getElem?_take, if_pos hjm, Array.getElem?_toList, Array.getElem?_eq_getElem (by omega)] at hj
    rw [getElem!_pos D j (by omega)]
    exact Option.some.inj hj
  have key : ((cur.toList.take (m * 2)).drop (j * 2)).take 2 = encI p := by
    apply List.ext_getElem?
    intro i
    rw [List.getElem?_take]
    by_cases hi : i < 2
    · rw [if_pos hi, List.getElem?_drop, List.getElem?_take, if_pos (by omega), Array.getElem?_toList]
      have h1 := (h (j * 2 + i) (by simp; omega)).1
      rw [Nat.zero_add, cell_of_row w g _ cur 23 (0, 0) hh, get_flatK _ _ _ _ (by omega)] at h1
      rw [h1, show (j * 2 + i) / 2 = j by omega, hp, show (j * 2 + i) % 2 = i by omega]
      have h4 : i = 0 ∨ i = 1 := by omega
      rcases h4 with e | e <;> rw [e] <;> rfl
    · rw [if_neg hi, List.getElem?_eq_none (by simp [encI]; omega)]
  show k23.M w base _ p (((cur.toList.take (m * 2)).drop (j * 2)).take 2)
  rw [key]
  exact k23_mkM w base _ p
theorem compact_none (w : World) : Calls Try.prog 38 #[.slice none 0 0] w fun e w' => e = .returned (.slice none 0 0) ∧ w' = w := by
  go_enter Try.func38, Try.ntmps38
  go_wp2
  go_ret
  exact ⟨rfl, rfl⟩
end Go.Proofs.Ytgbdohidlndhjaa.XIs
