/- Proved: slices.Grow of nil gives an empty row of the call's own. Condition: the room asked for is not negative and takes at most 2^47 bytes. -/
import Derived.Test.YtnegeacpfkcecaaEName
import Derived.Test.YtnegeacpfkcecaaWZeros
namespace Go.Proofs.Ytnegeacpfkcecaa.EGrow
open Go.Shelf Go.RowKit Go.Lib Go.Proofs.YtnegeacpfkcecaaW.PrintWords Go.Proofs.YtnegeacpfkcecaaW.PrintLast Go.Proofs.Ytnegeacpfkcecaa.EName

theorem grown_form (w : World) (m : Nat) (hn : 0 < m) (v1 : Value) (w1 : World) (h : Kd.R Kd.string 9 w1 w.heap.size (fun _ => True) v1 ([] ++ List.replicate ((m : Int)).toNat ⟨#[]⟩)) :
    ∃ g cap, v1 = .slice (some ⟨g, 0, none⟩) m cap ∧ (∀ W : World, (Instr.slice 22 (.slice (some ⟨g, 0, none⟩) m cap) none (some (.int .i64 0)) none).run Try.prog W = .ok (.slice (some ⟨g, 0, none⟩) 0 cap) W) ∧
      Hid (∃ cur, w1.heap[g]? = some (.cells cur 9 (0, 0)) ∧ w.heap.size ≤ g ∧ cap ≤ maxLen ∧ cur.size = cap * 1) := by
  have ho := Kd.own_of_R h
  simp only [Int.toNat_natCast, List.nil_append, List.length_replicate] at ho
  rcases ho.2 with ⟨rfl, h0⟩ | ⟨g, cap, cur, rfl, hb, hh, hc, hc2, hs, ht⟩
  · omega
  · obtain ⟨i0, hi0, _, hsz0, _⟩ := info_parts info9
    have hcut := cut_to (P := Try.prog) 22 9 .i64 Try.underlying22 hi0 (some ⟨g, 0, none⟩) m cap 0 (by omega) (by omega) hc
    exact ⟨g, cap, rfl, hcut, Lib.hid ⟨cur, hh, hb, hc2, hs⟩⟩

set_option maxRecDepth 100000 in
theorem grow_nil (n : Int) (w : World) (h0 : 0 ≤ n) (hl : n.toNat * 16 < 140737488355328) :
    Calls Try.prog 87 #[.slice none 0 0, .int .i64 n] w fun e w' => ∃ v0_ : Value, e = .returned v0_ ∧ Kd.R Kd.string 9 w' w.heap.size (fun _ => True) v0_ [] ∧ Below w.heap.size w w' := by
  obtain ⟨m, rfl⟩ := Int.eq_ofNat_of_zero_le h0
  rw [Int.toNat_natCast] at hl
  by_cases hn : 0 < m
  · have hm : m < 8796093022208 := by omega
    have HL := Lib.hid hl
    clear hl h0
    go_enter Try.func87, Try.ntmps87
    go_wp2_with ((with_reducible refine gate_builtin (b := .append) (xs := #[.tmp 20, .tmp 21]) rfl ?_); at_builtin; refine Kd.R_append_zeros Kd.string (w0 := w) w.heap.size rfl (.tmp 20) (.tmp 21) 22 3 9 (.string ⟨#[]⟩) 16 rfl Try.underlying22 (k := .i64) Try.underlying3 info9 rfl (by decide) (by omega) (.slice none 0 0) [] ⟨#[]⟩ (kx := .i64) (m : Int) (fun _ => True) rfl rfl rfl (fun _ _ => trivial) (Kd.R_nil _ _ _ _ _) (Int.natCast_nonneg m) (Below.refl _ _) (Nat.le_refl _) (by rw [Int.toNat_natCast]; have := HL.out; simp; omega) ?_; intro v1 w1 ho hb hg hat; obtain ⟨g, cap, rfl, hcut, HX⟩ := grown_form w m hn v1 w1 ho; have HB := Lib.hid hb; clear ho hb hg hat)
    go_ret
    obtain ⟨cur, hh, hb, hc2, hs⟩ := HX.out
    exact ⟨_, rfl, Kd.R_of_own (xs := []) ⟨rfl, .inr ⟨g, cap, cur, rfl, hb, hh, Nat.zero_le _, hc2, hs, rfl⟩⟩ (fun _ _ => trivial), HB.out⟩
  · have hq : m = 0 := by omega
    subst hq
    clear hl h0
    go_enter Try.func87, Try.ntmps87
    go_wp2
    go_ret
    exact ⟨_, rfl, Kd.R_nil _ _ _ _ _, Below.refl _ _⟩
end Go.Proofs.Ytnegeacpfkcecaa.EGrow
