/- Lemmas on rows of one-cell elements that the library's sort and its kin write in place. No condition. -/
import Derived.Test.YtgbdohidlndhjaaWWords
import Derived.Test.YtgbdohidlndhjaaWMore
import Derived.Sort.Row
import Derived.Sort.Grow
namespace Go.Proofs.Ytgbdohidlndhjaa.EGen
open Go.Sort Go.Proofs.YtgbdohidlndhjaaW.PrintWords
variable {α : Type} [Inhabited α] {enc : α → Value}

theorem putRow_heap (w : World) (g off : Nat) (d : Array α) (k : Nat) : (putRow enc w g off d).heap[k]? = if g = k then (w.heap[k]?).map (onCells (putCells enc off d)) else w.heap[k]? := by
  simp [putRow, mapBlock, Array.getElem?_modify]
theorem putRow_grown (w : World) (g off : Nat) (d : Array α) : w.grownBy (putRow enc w g off d) (some g) where
  os := rfl
  tape := rfl
  output := rfl
  size := by simp
  block := fun k _ hk => by rw [putRow_heap, if_neg]; rintro rfl; exact hk rfl
theorem own_holds {w : World} {base g n cap : Nat} {e : TypeId} {d : List α} (h : w.ownsRow base e 1 (.slice (some ⟨g, 0, none⟩) n cap) n (d.map enc)) : Holds enc w g 0 d.toArray := by
  have hl : d.length = n := by have := h.1; simpa using this
  rcases h.2 with ⟨h', _⟩ | ⟨g', cap', cur, h', hb, hh, hn, hc, hs, ht⟩
  · cases h'
  · have : g = g' := by injection h' with h'; injection h' with h'; injection h' with h'
    subst this
    intro j hj
    have hj' : j < d.length := by simpa using hj
    refine ⟨?_, by simp [World.frozen?, hh]⟩
    have h1 : (cur.toList.take (n * 1))[j]? = some (enc d[j]) := by rw [ht]; simp [hj']
    rw [List.getElem?_take, if_pos (by omega)] at h1
    rw [Nat.zero_add, cell_of_row w g j cur e (0, 0) hh]
    rw [← Array.getElem?_toList, h1]
    simp [hj']
theorem own_cap {w : World} {base n m c size : Nat} {e : TypeId} {g : Nat} {xs : List Value} (h : w.ownsRow base e size (.slice (some ⟨g, 0, none⟩) m c) n xs) : ∃ cur, w.heap[g]? = some (.cells cur e (0, 0)) ∧ n ≤ c ∧ c ≤ maxLen ∧ cur.size = c * size ∧ base ≤ g := by
  rcases h.2 with ⟨h', _⟩ | ⟨g', cap', cur, h', hb, hh, hn, hc, hs, ht⟩
  · cases h'
  · injection h' with h1 h2 h3
    injection h1 with h1
    injection h1 with h1
    subst h1 h3
    exact ⟨cur, hh, hn, hc, hs, hb⟩
/-- The row, its cells written anew, and cut: owned. -/
theorem own_putRow {w : World} {base g c m : Nat} {e : TypeId} {cur : Array Value} (hh : w.heap[g]? = some (.cells cur e (0, 0))) (hb : base ≤ g) (hc : c ≤ maxLen) (hs : cur.size = c) (d : List α) (hd : d.length ≤ c) (hm : m ≤ d.length) :
    (putRow enc w g 0 d.toArray).ownsRow base e 1 (.slice (some ⟨g, 0, none⟩) m c) m ((d.take m).map enc) := by
  refine ⟨by simp; omega, .inr ⟨g, c, putCells enc 0 d.toArray cur, rfl, hb, by rw [putRow_heap, if_pos rfl, hh]; rfl, by omega, hc, by simp [putCells, hs], ?_⟩⟩
  apply List.ext_getElem?
  intro i
  rw [List.getElem?_take]
  by_cases hi : i < m
  · rw [if_pos (by omega), Array.getElem?_toList, putCells, Array.getElem?_mapIdx, List.getElem?_map, List.getElem?_take, if_pos hi, Array.getElem?_eq_getElem (by omega), List.getElem?_eq_getElem (by omega)]
    have h1 : 0 ≤ i ∧ i < 0 + d.length := by omega
    have h2 : i < d.length := by omega
    simp [h1, h2]
  · rw [if_neg (by omega), List.getElem?_eq_none (by simp; omega)]
theorem grow_grown (w : World) (os : Array Obj) (row : Option Nat) : w.grownBy (grow w os) row where
  os := rfl
  tape := rfl
  output := rfl
  size := by simp
  block := fun k hk _ => heap_grow_old w os hk
theorem own_alive {w w1 : World} {base e size n : Nat} {v : Value} {xs : List Value} (h : w.ownsRow base e size v n xs) (hm : ∀ k, v.ownBlock = some k → w1.heap[k]? = w.heap[k]?) : w1.ownsRow base e size v n xs := own_move h hm
end Go.Proofs.Ytgbdohidlndhjaa.EGen
