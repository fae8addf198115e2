/- Proved: slices.Compact at ids, over a row of the caller's own: the row's head holds what is kept, then zero values. No condition. -/
import Derived.Test.YtgbdohidlndhjaaXIsx1
import Derived.WalkLawsBesides
import Derived.Lib.SlicesCompact
import Derived.Lib.SliceRun
import Derived.Shelf.GgSortFunc.RowK
import Derived.Laws.IdiomCopy
import Derived.Deep.LoopGhost
import Derived.Deep.QuietTactic
import Derived.Lib.Hide
namespace Go.Proofs.Ytgbdohidlndhjaa.XIs
open Go.Lib Go.Sort Go.RowKit Go.Proofs.YtgbdohidlndhjaaW.PrintWords Go.Proofs.YtgbdohidlndhjaaW.PrintLast Go.Proofs.YtgbdohidlndhjaaW.PrintMore
set_option linter.unusedVariables false
set_option linter.unusedSimpArgs false
deriving instance DecidableEq for S23
instance instS23 : Inhabited S23 := ⟨z23⟩
def encI (x : S23) : List Value := [.string x.f0, .int .i64 x.f1]
theorem toListB (s : ByteArray) : s.toList = s.data.toList := by
  obtain ⟨⟨l⟩⟩ := s
  simp
theorem eq23 (x y : S23) : (x.f0.toList == y.f0.toList && (x.f1 == y.f1)) = decide (x = y) := by
  obtain ⟨⟨⟨a⟩⟩, b⟩ := x
  obtain ⟨⟨⟨c⟩⟩, d⟩ := y
  rw [Bool.eq_iff_iff]
  simp [toListB]
theorem store2 (W : World) (blk : Nat) (dk : Array S23) (i : Nat) (u : S23) (hi : i < dk.size) :
    (putRowK encI 2 W blk 0 dk).setCells blk (i * 2) (encI u) = putRowK encI 2 W blk 0 (dk.setIfInBounds i u) := by
  have h := setCells_putRow W blk 0 (encI u) (i * 2) (flatK encI 2 dk) (by simp [encI]; omega)
  rw [Nat.zero_add] at h
  unfold putRowK
  rw [h]
  congr 1
  refine ext_get! (by simp) fun t ht => ?_
  have ht' : t < dk.size * 2 := by simpa using ht
  rw [get_setMany _ _ _ t (by simpa using ht'), get_flatK _ _ _ t ht', get_flatK _ _ _ t (by simpa using ht')]
  by_cases a : t / 2 = i
  · rw [if_pos (by simp [encI]; omega), a, show t - i * 2 = t % 2 by omega, getElem!_set_same dk i u hi]
  · rw [if_neg (by simp [encI]; omega), getElem!_set_other dk i _ u a]
def zl (n : Nat) : List Value := (Builtin.zeroCells #[.string (⟨#[]⟩ : ByteArray), .int .i64 0] n).toList
theorem zl_len (n : Nat) : (zl n).length = n * 2 := by simp [zl, Builtin.zeroCells]
theorem zl_get (n t : Nat) (h : t < n * 2) : (zl n)[t]! = (encI z23)[t % 2]! := by
  have h2 : t % 2 = 0 ∨ t % 2 = 1 := by omega
  rcases h2 with e | e <;> simp [zl, Builtin.zeroCells, h, e, encI, z23]
theorem clear2 (W : World) (blk : Nat) (dk : Array S23) (i : Nat) (hi : i ≤ dk.size) :
    (putRowK encI 2 W blk 0 dk).setCells blk (i * 2) (zl (dk.size - i)) = putRowK encI 2 W blk 0 (lay dk i (List.replicate (dk.size - i) z23)) := by
  have hl : (lay dk i (List.replicate (dk.size - i) z23)).size = dk.size := by
    have key : ∀ (xs : List S23) (d : Array S23) (k : Nat), (lay d k xs).size = d.size := by
      intro xs
      induction xs with
      | nil => intro d k; rfl
      | cons x xs ih => intro d k; rw [lay, ih]; simp
    exact key _ _ _
  have h := setCells_putRow W blk 0 (zl (dk.size - i)) (i * 2) (flatK encI 2 dk) (by rw [zl_len]; simp; omega)
  rw [Nat.zero_add] at h
  unfold putRowK
  rw [h]
  congr 1
  refine ext_get! (by simp [hl]) fun t ht => ?_
  have ht' : t < dk.size * 2 := by simpa using ht
  have hq : t / 2 < dk.size := by omega
  have hg : (lay dk i (List.replicate (dk.size - i) z23))[t / 2]! = if i ≤ t / 2 then z23 else dk[t / 2]! := by
    have := lay_get? (List.replicate (dk.size - i) z23) dk i (t / 2) (by simp; omega)
    rw [getElem!_pos _ _ (by rw [hl]; exact hq)]
    apply Option.some.inj
    rw [← Array.getElem?_eq_getElem, this]
    by_cases c : i ≤ t / 2
    · rw [if_pos (by simp; omega), if_pos c]
      rw [List.getElem?_replicate, if_pos (by omega)]
    · rw [if_neg (by omega), if_neg c, Array.getElem?_eq_getElem hq, getElem!_pos dk (t / 2) hq]
  rw [get_setMany _ _ _ t (by simpa using ht'), get_flatK _ _ _ t ht', get_flatK _ _ _ t (by rw [hl]; exact ht'), hg, zl_len]
  by_cases c : i ≤ t / 2
  · rw [if_pos (by omega), if_pos c, zl_get _ _ (by omega), show (t - i * 2) % 2 = t % 2 by omega]
  · rw [if_neg (by omega), if_neg c]
theorem run_clear2 (w : World) (ty : TypeId) (b o n c : Nat) (hn : 0 < n) (hc : ∀ j, j < n * 2 → (w.cell? ⟨b, o + j, none⟩).isSome = true) (hf : ∀ j, j < n * 2 → w.frozen? ⟨b, o + j, none⟩ = false) :
    (Builtin.clear_ #[31] ty #[.slice (some ⟨b, o, none⟩) n c]).run Try.prog w = .ok (.tuple #[]) (w.setCells b o (zl n)) := by
  have hst := run_storeCells_cells (P := Try.prog) b o (zl n) 0 w (by rw [zl_len]; simpa using hc) (by rw [zl_len]; simpa using hf) (by
    intro v hv
    obtain ⟨t, ht, rfl⟩ := List.getElem_of_mem hv
    have e := zl_get n t (by rw [zl_len] at ht; exact ht)
    rw [getElem!_pos (zl n) t ht] at e
    rw [e]
    have h2 : t % 2 = 0 ∨ t % 2 = 1 := by omega
    rcases h2 with e | e <;> rw [e] <;> rfl)
  simp only [Nat.add_zero] at hst
  obtain ⟨m, rfl⟩ : ∃ m, n = m + 1 := ⟨n - 1, by omega⟩
  have hz : (Builtin.zeroCells (Value.agg #[.string (⟨#[]⟩ : ByteArray), .int .i64 0]).cells (m + 1)).toList = zl (m + 1) := rfl
  simp only [Value.cells] at hz
  simp [Builtin.clear_, run_underlying Try.underlying31, Try.zeroValue23, Value.cells, hz, hst]
end Go.Proofs.Ytgbdohidlndhjaa.XIs
