/- Proved: what ident.Set answers: the ids of a list, sorted, each once, in a row of its own. Condition: the list's cells take fewer than 2^47 bytes. -/
import Derived.Test.YtgbdohidlndhjaaEIdsD
import Derived.Test.YtgbdohidlndhjaaEIdsF
import Derived.Test.YtgbdohidlndhjaaEIdsG
namespace Go.Proofs.Ytgbdohidlndhjaa.EIds
open Go.Lib Go.Sort Go.RowKit Go.Proofs.YtgbdohidlndhjaaW.PrintWords Go.Proofs.Ytgbdohidlndhjaa.XIs Go.Proofs.Ytgbdohidlndhjaa.EGen
set_option linter.unusedVariables false
set_option linter.unusedSimpArgs false
abbrev setT := XIs.setT
theorem set_nil : XIs.setT [] = [] := by simp [XIs.setT, Lib.compact, Lib.compactUpTo]
theorem put_heap {w : World} {g cap : Nat} {D : Array S23} {cur : Array Value} (hh : w.heap[g]? = some (.cells cur 23 (0, 0))) (hs : cur.size = cap * 2) :
    ∃ cur2, (putRowK XIs.encI 2 w g 0 D).heap[g]? = some (.cells cur2 23 (0, 0)) ∧ cur2.size = cap * 2 := by
  unfold putRowK
  rw [putRow_heap, if_pos rfl, hh]
  exact ⟨_, rfl, by simp [putCells, hs]⟩
theorem put_grown (w : World) (g : Nat) (D : Array S23) (n : Nat) : w.grownBy (putRowK XIs.encI 2 (Sort.ahead w n) g 0 D) (some g) :=
  ⟨rfl, rfl, rfl, by simp [putRowK], fun k hk hne => (putRow_grown (enc := id) (Sort.ahead w n) g 0 (flatK XIs.encI 2 D)).block k hk hne⟩
theorem compact_len (l : List S23) : (Lib.compact l).length ≤ l.length := by
  unfold Lib.compact Lib.compactUpTo
  rw [List.length_map]
  exact Nat.le_trans (List.length_filter_le _ _) (by simp)
set_option maxHeartbeats 2000000 in
theorem set_calls (A0 : Option Addr) (c0 : Nat) (l0 : List S23) (w : World) (hr0 : Kd.C k23 w A0 l0.length l0) (hl : l0.length * 24 ≤ 140737488355328) :
    Calls Try.prog 17 #[.slice A0 l0.length c0] w fun e w' => ∃ v0_ : Value, e = .returned v0_ ∧ Kd.R k23 23 w' w.heap.size (fun _ => True) v0_ (setT l0) ∧ Below w.heap.size w w' := by
  go_enter Try.func17, Try.ntmps17
  go_wp2_with fail
  refine (clone23 _ _ _ _ hr0 hl).mono ?_
  rintro e w1 ⟨v, rfl, HR, HB⟩
  rcases R_holds HR with ⟨rfl, rfl⟩ | ⟨g, cap, cur, rfl, hb, hh, hn, hc, hs, hH⟩
  · have HB' := Lib.hid HB
    clear HB HR hr0 hl
    go_wp2_with fail
    refine (sort_none _ _ _).mono ?_
    rintro e w' ⟨rfl, rfl⟩
    go_wp2_with (go_at_call 38; refine (compact_none _).mono ?_; rintro e w' ⟨rfl, rfl⟩)
    go_ret
    exact ⟨_, rfl, by rw [show setT [] = [] from set_nil]; exact Kd.R_nil _ _ _ _ _, HB'.out⟩
  · have hg : g < w1.heap.size := (Array.getElem?_eq_some_iff.1 hh).1
    have hS := sort_calls g cap l0 w1 hH hg (by omega)
    obtain ⟨s, hsd⟩ : ∃ s, l0.mergeSort leI = s := ⟨_, rfl⟩
    have hlen : s.length = l0.length := by rw [← hsd]; simp
    rw [hsd] at hS
    have hset : setT l0 = Lib.compact s := by show XIs.setT l0 = _; unfold XIs.setT; rw [hsd]
    have HS := Lib.hid hS
    have HH := Lib.hid hH
    have HLEN := Lib.hid hlen
    have HSET := Lib.hid hset
    have HB' := Lib.hid HB
    have HX := Lib.hid (And.intro hg (And.intro hh (And.intro hb (And.intro hc (And.intro hs hn)))))
    clear HB HR hr0 hl hS hH hg hlen hh hb hc hs hn hsd hset
    go_wp2_with fail
    refine HS.out.mono ?_
    rintro e w2 ⟨rfl, n, os, hw2⟩
    have hH2 : HoldsK XIs.encI 2 w2 g 0 s.toArray := by
      rw [hw2]
      unfold sortWorldK
      exact holdsK_grow XIs.encI 2 _ _ _ _ _ (by rw [show (putRowK XIs.encI 2 (Sort.ahead w1 n) g 0 s.toArray).heap.size = w1.heap.size by simp [putRowK]]; exact HX.out.1) (holdsK_putRowK XIs.encI 2 _ _ _ _ _ (holdsK_ahead XIs.encI 2 _ _ _ _ _ HH.out) (by simp [HLEN.out]))
    have hC := compact_calls g cap s.toArray w2 hH2 (by have := HX.out.2.2.2.1; have := HX.out.2.2.2.2.2; have := HLEN.out; simp only [maxLen] at *; simp; omega) (by have := HX.out.2.2.2.2.2; have := HLEN.out; simp; omega)
    rw [show s.toArray.size = s.length from List.size_toArray, show compactUpTo s.toArray s.length = Lib.compact s from rfl] at hC
    have hC' := hC
    rw [show (Value.slice (some ⟨g, 0, none⟩) s.length cap) = .slice (some ⟨g, 0, none⟩) l0.length cap by rw [HLEN.out]] at hC'
    have HC := Lib.hid hC'
    have HW2 := Lib.hid hw2
    clear hC hC' hw2 hH2
    go_wp2_with fail
    refine HC.out.mono ?_
    rintro e w3 ⟨rfl, q, hw3⟩
    have HW3 := Lib.hid hw3
    clear hw3
    go_wp2
    go_ret
    obtain ⟨hg, hh, hb, hc, hs, hn⟩ := HX.out
    have hl := HLEN.out
    have hcl := compact_len s
    obtain ⟨cur1, hh1, hs1⟩ := put_heap (D := s.toArray) (w := Sort.ahead w1 n) (g := g) (cap := cap) hh hs
    have hh2 : w2.heap[g]? = some (.cells cur1 23 (0, 0)) := by
      rw [HW2.out]
      unfold sortWorldK
      rw [Sort.heap_grow_old _ _ (by rw [show (putRowK XIs.encI 2 (Sort.ahead w1 n) g 0 s.toArray).heap.size = w1.heap.size by simp [putRowK]]; exact hg)]
      exact hh1
    obtain ⟨cur3, hh3, hs3⟩ := put_heap (D := (Lib.compact s ++ List.replicate (s.length - (Lib.compact s).length) z23).toArray) (w := Sort.ahead w2 q) (g := g) (cap := cap) hh2 hs1
    have hH2 : HoldsK XIs.encI 2 w2 g 0 s.toArray := by
      rw [HW2.out]
      unfold sortWorldK
      exact holdsK_grow XIs.encI 2 _ _ _ _ _ (by rw [show (putRowK XIs.encI 2 (Sort.ahead w1 n) g 0 s.toArray).heap.size = w1.heap.size by simp [putRowK]]; exact hg) (holdsK_putRowK XIs.encI 2 _ _ _ _ _ (holdsK_ahead XIs.encI 2 _ _ _ _ _ HH.out) (by simp [hl]))
    have hH3 : HoldsK XIs.encI 2 w3 g 0 (Lib.compact s ++ List.replicate (s.length - (Lib.compact s).length) z23).toArray := by
      rw [HW3.out]
      exact holdsK_putRowK XIs.encI 2 _ _ _ _ _ (holdsK_ahead XIs.encI 2 _ _ _ _ _ hH2) (by simp; omega)
    have hg1 : w1.grownBy w2 (some g) := by
      rw [HW2.out]
      exact World.grownBy.trans (put_grown w1 g s.toArray n) (grow_grown _ _ _)
    have hg2 : w2.grownBy w3 (some g) := by
      rw [HW3.out]
      exact put_grown w2 g _ q
    rw [← HW3.out] at hh3
    refine ⟨_, rfl, ?_, ?_⟩
    · have h3 := holds_R (m := (Lib.compact s).length) (base := w.heap.size) hh3 hb hc hs3 (by simp; omega) (by simp) hH3
      rw [show (Lib.compact s ++ List.replicate (s.length - (Lib.compact s).length) z23).toArray.toList.take (Lib.compact s).length = Lib.compact s by simp] at h3
      rw [HSET.out]
      exact h3
    · exact (HB'.out.grown hg1 HB'.out.size (fun k hk => by injection hk with hk; omega)).grown hg2 (Nat.le_trans HB'.out.size hg1.size) (fun k hk => by injection hk with hk; omega)
end Go.Proofs.Ytgbdohidlndhjaa.EIds
