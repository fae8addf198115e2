/- Printed by px.py, a program of this session over the print of the kit: functions that the law reaches, as Lean functions, each with a proof that its Go code answers so. No condition. -/
import Derived.Test.YtnegeacpfkcecaaXDiffx0
import Derived.Test.YtnegeacpfkcecaaEStep
namespace Go.Proofs.Ytnegeacpfkcecaa.XDiff
open Go.RowKit Go.Proofs.YtnegeacpfkcecaaW.PrintWords Go.Proofs.YtnegeacpfkcecaaW.PrintLast Go.Proofs.YtnegeacpfkcecaaW.PrintMore Go.Proofs.Ytnegeacpfkcecaa.EStep
attribute [local go_sem] max2_int min2_int max_two min_two max_three min_three max_four min_four   -- for this text's walks alone
set_option linter.unusedVariables false
set_option linter.unusedSimpArgs false

/-! ### rafterref04_whole: function 55 -/
mutual
def rafterref04_whole.l0 : Nat → List ByteArray → List ByteArray → Int → Option ((List (S66)))
 | 0, _, _, _ => none
 | k + 1, x0, x1, x5 => if x5 < (x0.length : Int) then (if x5 < (x1.length : Int) then (if 0 ≤ x5 then (rafterref04_whole.j1 k x0 x1 x5 ((rdOf ByteArray.empty x0 x5).toList == (rdOf ByteArray.empty x1 x5).toList)) else (none)) else (rafterref04_whole.j1 k x0 x1 x5 false)) else (rafterref04_whole.j1 k x0 x1 x5 false)
def rafterref04_whole.j1 : Nat → List ByteArray → List ByteArray → Int → Bool → Option ((List (S66)))
 | 0, _, _, _, _ => none
 | k + 1, x0, x1, x5, x28 => if x28 = true then (rafterref04_whole.l0 k x0 x1 (wrap64 (x5 + 1))) else (rafterref04_whole.l1 k x0 x1 x5 0)
def rafterref04_whole.l1 : Nat → List ByteArray → List ByteArray → Int → Int → Option ((List (S66)))
 | 0, _, _, _, _ => none
 | k + 1, x0, x1, x5, x6 => if x6 < (wrap64 ((x0.length : Int) - x5)) then (if x6 < (wrap64 ((x1.length : Int) - x5)) then (if 0 ≤ (wrap64 ((wrap64 ((x0.length : Int) - 1)) - x6)) then (if (wrap64 ((wrap64 ((x0.length : Int) - 1)) - x6)) < (x0.length : Int) then (if 0 ≤ (wrap64 ((wrap64 ((x1.length : Int) - 1)) - x6)) then (if (wrap64 ((wrap64 ((x1.length : Int) - 1)) - x6)) < (x1.length : Int) then (rafterref04_whole.j3 k x0 x1 x5 x6 ((rdOf ByteArray.empty x0 (wrap64 ((wrap64 ((x0.length : Int) - 1)) - x6))).toList == (rdOf ByteArray.empty x1 (wrap64 ((wrap64 ((x1.length : Int) - 1)) - x6))).toList)) else (none)) else (none)) else (none)) else (none)) else (rafterref04_whole.j3 k x0 x1 x5 x6 false)) else (rafterref04_whole.j3 k x0 x1 x5 x6 false)
def rafterref04_whole.j3 : Nat → List ByteArray → List ByteArray → Int → Int → Bool → Option ((List (S66)))
 | 0, _, _, _, _, _ => none
 | k + 1, x0, x1, x5, x6, x63 => if x63 = true then (rafterref04_whole.l1 k x0 x1 x5 (wrap64 (x6 + 1))) else (if 0 ≤ x5 then (if x5 ≤ (wrap64 ((x0.length : Int) - x6)) then (if (wrap64 ((x0.length : Int) - x6)) ≤ (x0.length : Int) then (if ([] : List ByteArray).length + ((x0.take ((wrap64 ((x0.length : Int) - x6)) : Int).toNat).drop (x5 : Int).toNat).length < 8796093022208 then ((some (([] : List ByteArray) ++ ((x0.take ((wrap64 ((x0.length : Int) - x6)) : Int).toNat).drop (x5 : Int).toNat) : List ByteArray)).bind fun y274 => (if x5 ≤ (wrap64 ((x1.length : Int) - x6)) then (if (wrap64 ((x1.length : Int) - x6)) ≤ (x1.length : Int) then (if ([] : List ByteArray).length + ((x1.take ((wrap64 ((x1.length : Int) - x6)) : Int).toNat).drop (x5 : Int).toNat).length < 8796093022208 then ((some (([] : List ByteArray) ++ ((x1.take ((wrap64 ((x1.length : Int) - x6)) : Int).toNat).drop (x5 : Int).toNat) : List ByteArray)).bind fun y278 => (if (wrap64 ((y274.length : Int) + (y278.length : Int))) = 0 then (some ([] : List (S66))) else (some (([(⟨x5, y274, y278⟩ : S66)] : List (S66)))))) else (none)) else (none)) else (none))) else (none)) else (none)) else (none)) else (none))
end
def rafterref04_whole.f (k : Nat) (l0 : List ByteArray) (l1 : List ByteArray) : Option ((List (S66))) := rafterref04_whole.l0 k l0 l1 0
theorem rafterref04_whole.mono_l : ∀ k, (∀ y0 y1 y2, LeO (rafterref04_whole.l0 k y0 y1 y2) (rafterref04_whole.l0 (k + 1) y0 y1 y2)) ∧ (∀ y0 y1 y2 y3, LeO (rafterref04_whole.j1 k y0 y1 y2 y3) (rafterref04_whole.j1 (k + 1) y0 y1 y2 y3)) ∧ (∀ y0 y1 y2 y3, LeO (rafterref04_whole.l1 k y0 y1 y2 y3) (rafterref04_whole.l1 (k + 1) y0 y1 y2 y3)) ∧ (∀ y0 y1 y2 y3 y4, LeO (rafterref04_whole.j3 k y0 y1 y2 y3 y4) (rafterref04_whole.j3 (k + 1) y0 y1 y2 y3 y4))
 | 0 => ⟨fun _ _ _ r h => by simp [rafterref04_whole.l0] at h, fun _ _ _ _ r h => by simp [rafterref04_whole.j1] at h, fun _ _ _ _ r h => by simp [rafterref04_whole.l1] at h, fun _ _ _ _ _ r h => by simp [rafterref04_whole.j3] at h⟩
 | k + 1 => by
  obtain ⟨ih0, ih1, ih2, ih3⟩ := rafterref04_whole.mono_l k
  refine ⟨?_, ?_, ?_, ?_⟩
  ·intro y0 y1 y2
   unfold rafterref04_whole.l0
   repeat' first
   | (with_reducible exact ih0 _ _ _)
   | (with_reducible exact ih1 _ _ _ _)
   | (with_reducible exact ih2 _ _ _ _)
   | (with_reducible exact ih3 _ _ _ _ _)
   | (with_reducible exact LeO.refl _)
   | (with_reducible exact LeO.none _)
   | (with_reducible refine LeO.ite ?_ ?_)
   | (with_reducible refine LeO.bind ?_ (fun _ => ?_))
   | exact ih0 _ _ _
   | exact ih1 _ _ _ _
   | exact ih2 _ _ _ _
   | exact ih3 _ _ _ _ _
   | exact LeO.none _
   | refine LeO.ite ?_ ?_
   | refine LeO.bind ?_ (fun _ => ?_)
  ·intro y0 y1 y2 y3
   unfold rafterref04_whole.j1
   repeat' first
   | (with_reducible exact ih0 _ _ _)
   | (with_reducible exact ih1 _ _ _ _)
   | (with_reducible exact ih2 _ _ _ _)
   | (with_reducible exact ih3 _ _ _ _ _)
   | (with_reducible exact LeO.refl _)
   | (with_reducible exact LeO.none _)
   | (with_reducible refine LeO.ite ?_ ?_)
   | (with_reducible refine LeO.bind ?_ (fun _ => ?_))
   | exact ih0 _ _ _
   | exact ih1 _ _ _ _
   | exact ih2 _ _ _ _
   | exact ih3 _ _ _ _ _
   | exact LeO.none _
   | refine LeO.ite ?_ ?_
   | refine LeO.bind ?_ (fun _ => ?_)
  ·intro y0 y1 y2 y3
   unfold rafterref04_whole.l1
   repeat' first
   | (with_reducible exact ih0 _ _ _)
   | (with_reducible exact ih1 _ _ _ _)
   | (with_reducible exact ih2 _ _ _ _)
   | (with_reducible exact ih3 _ _ _ _ _)
   | (with_reducible exact LeO.refl _)
   | (with_reducible exact LeO.none _)
   | (with_reducible refine LeO.ite ?_ ?_)
   | (with_reducible refine LeO.bind ?_ (fun _ => ?_))
   | exact ih0 _ _ _
   | exact ih1 _ _ _ _
   | exact ih2 _ _ _ _
   | exact ih3 _ _ _ _ _
   | exact LeO.none _
   | refine LeO.ite ?_ ?_
   | refine LeO.bind ?_ (fun _ => ?_)
  ·intro y0 y1 y2 y3 y4
   unfold rafterref04_whole.j3
   repeat' first
   | (with_reducible exact ih0 _ _ _)
   | (with_reducible exact ih1 _ _ _ _)
   | (with_reducible exact ih2 _ _ _ _)
   | (with_reducible exact ih3 _ _ _ _ _)
   | (with_reducible exact LeO.refl _)
   | (with_reducible exact LeO.none _)
   | (with_reducible refine LeO.ite ?_ ?_)
   | (with_reducible refine LeO.bind ?_ (fun _ => ?_))
   | exact ih0 _ _ _
   | exact ih1 _ _ _ _
   | exact ih2 _ _ _ _
   | exact ih3 _ _ _ _ _
   | exact LeO.none _
   | refine LeO.ite ?_ ?_
   | refine LeO.bind ?_ (fun _ => ?_)
theorem rafterref04_whole.mono : ∀ a0 a1 k, LeO (rafterref04_whole.f k a0 a1) (rafterref04_whole.f (k + 1) a0 a1) := by
 intro a0 a1 k
 obtain ⟨ih0, ih1, ih2, ih3⟩ := rafterref04_whole.mono_l k
 unfold rafterref04_whole.f
 repeat' first
   | (with_reducible exact ih0 _ _ _)
   | (with_reducible exact ih1 _ _ _ _)
   | (with_reducible exact ih2 _ _ _ _)
   | (with_reducible exact ih3 _ _ _ _ _)
   | (with_reducible exact LeO.refl _)
   | (with_reducible exact LeO.none _)
   | (with_reducible refine LeO.ite ?_ ?_)
   | (with_reducible refine LeO.bind ?_ (fun _ => ?_))
   | exact ih0 _ _ _
   | exact ih1 _ _ _ _
   | exact ih2 _ _ _ _
   | exact ih3 _ _ _ _ _
   | exact LeO.none _
   | refine LeO.ite ?_ ?_
   | refine LeO.bind ?_ (fun _ => ?_)
def rafterref04_whole.T2 : Bool × List (List Nat × List Nat) := (true, [([], []), ([], []), ([1], [1]), ([0, 2], [0, 2]), ([3], [3]), ([4], [4]), ([4], [4]), ([6, 4], [4, 6]), ([5, 7, 4], [4, 5, 7]), ([4, 8], [4, 8]), ([9, 4], [9]), ([10], [10]), ([10], [10]), ([11, 12, 10], [10, 11, 12]), ([13, 10], [10, 13]), ([10], [10]), ([10], [10]), ([15, 16, 10], [10, 15, 16]), ([17, 10], [10, 17]), ([14, 18, 10], [10, 14, 18]), ([10, 19], [10, 19])])
def rafterref04_whole.B2 : List Nat := [0, 0, 2, 7, 15, 31, 31, 95, 255, 511, 1023, 2047, 2047, 8191, 16383, 2047, 2047, 100351, 231423, 524287, 1048575]
theorem rafterref04_whole.tab2 : rtab .any (opsOf Try.f55 2) = rafterref04_whole.T2 := by kernel_rfl
theorem rafterref04_whole.bits2 : waitsOk rafterref04_whole.T2.2 rafterref04_whole.B2 = true := by kernel_rfl
def rafterref04_whole.T5 : Bool × List (List Nat × List Nat) := (true, [([], []), ([], []), ([1], [1]), ([], []), ([2, 3], [2, 3]), ([0, 4], [0, 4]), ([5], [5]), ([6], [6]), ([6], [6]), ([8, 6], [6, 8]), ([6], [6]), ([9, 10, 6], [6, 9, 10]), ([7, 11, 6], [6, 7, 11]), ([6, 12], [6, 12]), ([13, 6], [13]), ([14], [14]), ([14], [14]), ([16, 14], [14, 16]), ([17, 14], [14, 17]), ([14], [14]), ([18, 19, 14], [14, 18, 19]), ([15, 20, 14], [14, 15, 20]), ([21, 14], [14, 21]), ([14], [14]), ([14], [14]), ([24, 14], [14, 24]), ([25, 14], [14, 25]), ([14], [14]), ([26, 27, 14], [14, 26, 27]), ([23, 28, 14], [14, 23, 28]), ([29, 14], [14, 29]), ([22, 30, 14], [14, 22, 30]), ([14, 31], [14, 31])])
def rafterref04_whole.B5 : List Nat := [0, 0, 2, 0, 14, 31, 63, 127, 127, 383, 127, 1919, 4095, 8191, 16383, 32767, 32767, 98303, 229375, 32767, 1015807, 2097151, 4194303, 32767, 32767, 16809983, 50364415, 32767, 251691007, 528515071, 1065385983, 2147483647, 4294967295]
theorem rafterref04_whole.tab5 : rtab .any (opsOf Try.f55 5) = rafterref04_whole.T5 := by kernel_rfl
theorem rafterref04_whole.bits5 : waitsOk rafterref04_whole.T5.2 rafterref04_whole.B5 = true := by kernel_rfl
def rafterref04_whole.T8 : Bool × List (List Nat × List Nat) := (true, [([], []), ([0], [0]), ([], []), ([], []), ([], []), ([4], [4]), ([], []), ([5, 6], [5, 6]), ([2, 3, 7], [2, 3, 7]), ([1, 8], [1, 8]), ([0, 1, 2, 3, 4, 5, 6, 7, 8, 9], []), ([10, 9, 9, 0, 1, 2, 3, 4, 5, 6, 7, 8, 9], [9, 10])])
def rafterref04_whole.B8 : List Nat := [0, 1, 0, 0, 0, 16, 0, 112, 252, 511, 1023, 2047]
theorem rafterref04_whole.tab8 : rtab .any (opsOf Try.f55 8) = rafterref04_whole.T8 := by kernel_rfl
theorem rafterref04_whole.bits8 : waitsOk rafterref04_whole.T8.2 rafterref04_whole.B8 = true := by kernel_rfl
def rafterref04_whole.T9 : Bool × List (List Nat × List Nat) := (true, [([], []), ([0], [0]), ([], []), ([], []), ([], []), ([4], [4]), ([], []), ([5, 6], [5, 6]), ([2, 3, 7], [2, 3, 7]), ([1, 8], [1, 8]), ([0, 1, 2, 3, 4, 5, 6, 7, 8, 9], []), ([10, 9, 9, 0, 1, 2, 3, 4, 5, 6, 7, 8, 9], [9, 10])])
def rafterref04_whole.B9 : List Nat := [0, 1, 0, 0, 0, 16, 0, 112, 252, 511, 1023, 2047]
theorem rafterref04_whole.tab9 : rtab .any (opsOf Try.f55 9) = rafterref04_whole.T9 := by kernel_rfl
theorem rafterref04_whole.bits9 : waitsOk rafterref04_whole.T9.2 rafterref04_whole.B9 = true := by kernel_rfl
set_option maxHeartbeats 8000000 in
set_option maxRecDepth 100000 in
theorem rafterref04_whole.calls (k : Nat) (A0 : Option Addr) (c0 : Nat) (l0 : List ByteArray) (A1 : Option Addr) (c1 : Nat) (l1 : List ByteArray) (r : List (S66)) (w : World) (hr0 : Kd.C Kd.string w A0 l0.length l0) (hc0 : l0.length ≤ c0) (hr1 : Kd.C Kd.string w A1 l1.length l1) (hc1 : l1.length ≤ c1) (h : rafterref04_whole.f k l0 l1 = some r) :
  Calls Try.prog 55 #[.slice A0 l0.length c0, .slice A1 l1.length c1] w fun e w' => ∃ v0_ : Value, e = .returned (v0_) ∧ Kd.N k66 66 w' w.heap.size (fun k_ => (w.heap.size ≤ k_)) v0_ r ∧ Below w.heap.size w w' := by
 have hu66 := Try.underlying66
 have HR0 := Aside0.mk hr0
 have HC0 := Aside0.mk hc0
 clear hr0 hc0
 have HR1 := Aside0.mk hr1
 have HC1 := Aside0.mk hc1
 clear hr1 hc1
 have HB := Aside0.mk (Below.refl w.heap.size w)
 have H : (rafterref04_whole.l0 k l0 l1 0) = some r := h
 clear h
 have H' := Aside0.mk H
 clear H
 go_enter Try.func55, Try.ntmps55
 go_wp2
 go_loopg [5] k (fun kq v5 w' => ∃ (x5_1 : Int), v5 = .int .i64 x5_1 ∧ Aside0 (rafterref04_whole.l0 kq l0 l1 x5_1 = some r) ∧ Aside0 (kq ≤ k) ∧ Aside0 (Below w.heap.size w w'))
 case atStart => exact ⟨(0), (by first | rfl | (simp; done) | (simp [*]; done)), H', ⟨Nat.le_refl _⟩, ⟨by repeat (first | (with_reducible first | exact HB.out | apply below_alloc | apply pw_below_drewN | apply below_drew1) | exact HB.out)⟩⟩
 case round =>
  clear H'
  try clear c1
  try clear p2
  obtain ⟨x5_1, rfl, HA, HK1, HB⟩ := hrel
  cases gk with
  | zero => exact absurd HA.out (by simp [rafterref04_whole.l0])
  | succ k1 =>
   have H := HA.out
   clear HA
   simp only [rafterref04_whole.l0] at H
   have HC3 := Aside0.mk H
   clear H
   go_upto_region 2 with (fail)
   go_cut [28] (fun v28 wc => ∃ (kq : Nat) (x28_2 : Bool), v28 = .bool x28_2 ∧ Aside0 (rafterref04_whole.j1 kq l0 l1 x5_1 x28_2 = some r) ∧ Aside0 (kq ≤ k1) ∧ Aside0 (Below w.heap.size w wc))
   case first =>
    have H := HC3.out
    clear HC3
    by_cases c4 : x5_1 < (l0.length : Int)
    ·rw [if_pos c4] at H
     have c4b0 : decide (x5_1 < (l0.length : Int)) = true := decide_eq_true c4
     clear c4
     (first | rw [c4b0] | (simp only [i64_w, i32_w]; rw [c4b0]) | skip)
     by_cases c5 : x5_1 < (l1.length : Int)
     ·rw [if_pos c5] at H
      have c5b0 : decide (x5_1 < (l1.length : Int)) = true := decide_eq_true c5
      clear c5
      by_cases c6 : 0 ≤ x5_1
      ·rw [if_pos c6] at H
       have c6b0 : decide (0 ≤ x5_1) = true := decide_eq_true c6
       clear c6
       have H' := Aside0.mk H
       clear H
       try go_wp2
       have n0_ := Aside0.mk (below_drew1 HB.out)
       clear HB
       have HB := n0_
       clear n0_
       have p268 : 0 ≤ (x5_1 : Int) := of_decide_eq_true (by first | (with_reducible assumption) | assumption)
       have q268 : x5_1 < (l0.length : Int) := of_decide_eq_true (by first | (with_reducible assumption) | assumption)
       obtain ⟨ad268, e268, hx268_0⟩ := Kd.at_string HR0.out x5_1 p268 q268
       have hw268_0 := hx268_0
       cases e268
       replace hx268_0 := (HB.out.cell (World.block_lt_of_cell? w _ hx268_0)).trans hx268_0
       replace p268 := eq_true p268
       replace q268 := eq_true q268
       have p269 : 0 ≤ (x5_1 : Int) := of_decide_eq_true (by first | (with_reducible assumption) | assumption)
       have q269 : x5_1 < (l1.length : Int) := of_decide_eq_true (by first | (with_reducible assumption) | assumption)
       obtain ⟨ad269, e269, hx269_0⟩ := Kd.at_string HR1.out x5_1 p269 q269
       have hw269_0 := hx269_0
       cases e269
       replace hx269_0 := (HB.out.cell (World.block_lt_of_cell? w _ hx269_0)).trans hx269_0
       replace p269 := eq_true p269
       replace q269 := eq_true q269
       refine start_ (n := 21) (S := fun w' => w'.cell? (ad268.add (x5_1).toNat) = some (.string (rdOf ByteArray.empty l0 x5_1)) ∧ w'.cell? (ad269.add (x5_1).toNat) = some (.string (rdOf ByteArray.empty l1 x5_1))) (ds := []) #[false, false, false, false, false, false, false, false, false, false, false, false, false, false, false, false, false, false, false, false, false] (by kernel_rfl) rfl rfl ⟨((HB.out.cell (World.block_lt_of_cell? w _ hw268_0)).trans hw268_0), ((HB.out.cell (World.block_lt_of_cell? w _ hw269_0)).trans hw269_0)⟩ (fun hHeld => ?_); refine with_tabW rafterref04_whole.tab2 rafterref04_whole.bits2 (fun HT_ HW_ => ?_)
       generalize wr.drew = w7 at HB hx268_0 hx269_0 hHeld ⊢
       refine pq_ 0 (some 8) HT_ ?_; refine pq_ 1 (some 9) HT_ ?_; refine pq_ 2 (some 10) HT_ ?_; refine pq_ 3 (some 11) HT_ ?_; refine pq_ 4 (some 12) HT_ ?_; refine pq_ 5 (some 13) HT_ ?_; refine pq_ 6 (some 14) HT_ ?_; refine pq_ 7 (some 15) HT_ ?_; refine pq_ 8 (some 16) HT_ ?_; refine pq_ 9 (some 17) HT_ ?_; refine pq_ 10 (some 18) HT_ ?_; refine pq_ 11 (some 19) HT_ ?_; refine pq_ 12 (some 20) HT_ ?_
       refine pq_ 13 (some 21) HT_ ?_; refine pq_ 15 (some 23) HT_ ?_; refine pq_ 16 (some 24) HT_ ?_; refine pq_ 17 (some 25) HT_ ?_; refine tq_ 14 (some 22) HT_ HW_ hHeld ?_; refine tq_ 18 (some 26) HT_ HW_ hHeld ?_; refine pq_ 19 (some 27) HT_ ?_; refine pq_ 20 (some 28) HT_ ?_
       refine done_ (done_of HT_.out (by kernel_rfl)) ?_
       try go_wp2
       go_meet
       case rel => exact ⟨_, (((rdOf ByteArray.empty l0 x5_1).toList == (rdOf ByteArray.empty l1 x5_1).toList)), (by first | rfl | (simp; done) | (simp [*]; done)), H', ⟨by have := HK1.out; first | omega | exact Nat.le_refl _⟩, ⟨by repeat (first | (with_reducible first | exact HB.out | apply below_alloc | apply pw_below_drewN | apply below_drew1) | exact HB.out)⟩⟩
      ·rw [if_neg c6] at H
       exact absurd H (by simp)
     ·rw [if_neg c5] at H
      have c5b0 : decide (x5_1 < (l1.length : Int)) = false := decide_eq_false c5
      clear c5
      have H' := Aside0.mk H
      clear H
      try go_wp2
      have n0_ := Aside0.mk (below_drew1 HB.out)
      clear HB
      have HB := n0_
      clear n0_
      refine start_ (n := 21) (S := fun w' => True) (ds := []) #[false, false, false, false, false, false, false, false, false, false, false, false, false, false, false, false, false, false, false, false, false] (by kernel_rfl) rfl rfl trivial (fun hHeld => ?_); refine with_tabW rafterref04_whole.tab2 rafterref04_whole.bits2 (fun HT_ HW_ => ?_)
      generalize wr.drew = w8 at HB hHeld ⊢
      refine pq_ 0 (some 8) HT_ ?_; refine pq_ 1 (some 9) HT_ ?_; refine pq_ 2 (some 10) HT_ ?_; refine pq_ 3 (some 11) HT_ ?_; refine pq_ 4 (some 12) HT_ ?_; refine pq_ 5 (some 13) HT_ ?_; refine pq_ 6 (some 14) HT_ ?_; refine pq_ 7 (some 15) HT_ ?_; refine pq_ 8 (some 16) HT_ ?_; refine pq_ 9 (some 17) HT_ ?_; refine pq_ 10 (some 18) HT_ ?_; refine pf_ 11 (some 19) HT_ ?_; refine pf_ 12 (some 20) HT_ ?_
      refine pf_ 13 (some 21) HT_ ?_; refine pf_ 14 (some 22) HT_ ?_; refine pf_ 15 (some 23) HT_ ?_; refine pf_ 16 (some 24) HT_ ?_; refine pf_ 17 (some 25) HT_ ?_; refine pf_ 18 (some 26) HT_ ?_; refine pf_ 19 (some 27) HT_ ?_; refine pq_ 20 (some 28) HT_ ?_
      refine done_ (done_of HT_.out (by kernel_rfl)) ?_
      try go_wp2
      go_meet
      case rel => exact ⟨_, (false), (by first | rfl | (simp; done) | (simp [*]; done)), H', ⟨by have := HK1.out; first | omega | exact Nat.le_refl _⟩, ⟨by repeat (first | (with_reducible first | exact HB.out | apply below_alloc | apply pw_below_drewN | apply below_drew1) | exact HB.out)⟩⟩
    ·rw [if_neg c4] at H
     have c4b0 : decide (x5_1 < (l0.length : Int)) = false := decide_eq_false c4
     clear c4
     (first | rw [c4b0] | (simp only [i64_w, i32_w]; rw [c4b0]) | skip)
     have H' := Aside0.mk H
     clear H
     try go_wp2
     have n0_ := Aside0.mk (below_drew1 HB.out)
     clear HB
     have HB := n0_
     clear n0_
     refine start_ (n := 21) (S := fun w' => True) (ds := []) #[false, false, false, false, false, false, false, false, false, false, false, false, false, false, false, false, false, false, false, false, false] (by kernel_rfl) rfl rfl trivial (fun hHeld => ?_); refine with_tabW rafterref04_whole.tab2 rafterref04_whole.bits2 (fun HT_ HW_ => ?_)
     generalize wr.drew = w9 at HB hHeld ⊢
     refine pq_ 0 (some 8) HT_ ?_; refine pq_ 1 (some 9) HT_ ?_; refine pq_ 2 (some 10) HT_ ?_; refine pq_ 3 (some 11) HT_ ?_; refine pq_ 4 (some 12) HT_ ?_; refine pf_ 5 (some 13) HT_ ?_; refine pf_ 6 (some 14) HT_ ?_; refine pf_ 7 (some 15) HT_ ?_; refine pf_ 8 (some 16) HT_ ?_; refine pq_ 9 (some 17) HT_ ?_; refine pq_ 10 (some 18) HT_ ?_; refine pf_ 11 (some 19) HT_ ?_; refine pf_ 12 (some 20) HT_ ?_
     refine pf_ 13 (some 21) HT_ ?_; refine pf_ 14 (some 22) HT_ ?_; refine pf_ 15 (some 23) HT_ ?_; refine pf_ 16 (some 24) HT_ ?_; refine pf_ 17 (some 25) HT_ ?_; refine pf_ 18 (some 26) HT_ ?_; refine pf_ 19 (some 27) HT_ ?_; refine pq_ 20 (some 28) HT_ ?_
     refine done_ (done_of HT_.out (by kernel_rfl)) ?_
     try go_wp2
     go_meet
     case rel => exact ⟨_, (false), (by first | rfl | (simp; done) | (simp [*]; done)), H', ⟨by have := HK1.out; first | omega | exact Nat.le_refl _⟩, ⟨by repeat (first | (with_reducible first | exact HB.out | apply below_alloc | apply pw_below_drewN | apply below_drew1) | exact HB.out)⟩⟩
   case rest =>
    clear HC3
    try clear c1
    try clear p2
    try clear q2
    try clear hx2
    try clear c4
    try clear c4b0
    try clear c5
    try clear c5b0
    try clear c6
    try clear c6b0
    try clear hx268_0
    try clear hx269_0
    try clear p2
    try clear p268
    try clear p269
    try clear q268
    try clear q269
    obtain ⟨kq, x28_2, rfl, HA, HJ2, HB⟩ := hcut
    cases kq with
    | zero => exact absurd HA.out (by simp [rafterref04_whole.j1])
    | succ kj2 =>
     have H := HA.out
     clear HA
     simp only [rafterref04_whole.j1] at H
     by_cases c10 : x28_2 = true
     ·subst c10
      have H1 : (rafterref04_whole.l0 kj2 l0 l1 (wrap64 (x5_1 + 1))) = some r := by rw [if_pos rfl] at H; exact H
      clear H
      have H := H1
      clear H1
      have H' := Aside0.mk H
      clear H
      go_wp2
      go_roundg kj2
      case measure => have := HK1.out; have := HJ2.out; omega
      case rel => exact ⟨(wrap64 (x5_1 + 1)), (by first | rfl | (simp; done) | (simp [*]; done)), H', ⟨by have := HK1.out; have := HJ2.out; omega⟩, ⟨by repeat (first | (with_reducible first | exact HB.out | apply below_alloc | apply pw_below_drewN | apply below_drew1) | exact HB.out)⟩⟩
     ·replace c10 := Bool.eq_false_iff.mpr c10
      subst c10
      have H1 : (rafterref04_whole.l1 kj2 l0 l1 x5_1 0) = some r := by rw [if_neg (show ¬ (false = true) by decide)] at H; exact H
      clear H
      have H := H1
      clear H1
      have H' := Aside0.mk H
      clear H
      go_wp2
      go_loopg [6] kj2 (fun kq v6 w' => ∃ (x6_3 : Int), v6 = .int .i64 x6_3 ∧ Aside0 (rafterref04_whole.l1 kq l0 l1 x5_1 x6_3 = some r) ∧ Aside0 (kq ≤ kj2) ∧ Aside0 (Below w.heap.size w w'))
      case atStart => exact ⟨(0), (by first | rfl | (simp; done) | (simp [*]; done)), H', ⟨Nat.le_refl _⟩, ⟨by repeat (first | (with_reducible first | exact HB.out | apply below_alloc | apply pw_below_drewN | apply below_drew1) | exact HB.out)⟩⟩
      case round =>
       clear H'
       try clear c1
       try clear p2
       try clear q2
       try clear hx2
       try clear c4
       try clear c4b0
       try clear c5
       try clear c5b0
       try clear c6
       try clear c6b0
       try clear p6
       try clear c10
       try clear hx268_0
       try clear hx269_0
       try clear p2
       try clear p268
       try clear p269
       try clear q2
       try clear q268
       try clear q269
       obtain ⟨x6_3, rfl, HA, HK3, HB⟩ := hrel
       cases gk with
       | zero => exact absurd HA.out (by simp [rafterref04_whole.l1])
       | succ k3 =>
        have H := HA.out
        clear HA
        simp only [rafterref04_whole.l1] at H
        have HC11 := Aside0.mk H
        clear H
        go_upto_region 5 with (fail)
        go_cut [63] (fun v63 wc => ∃ (kq : Nat) (x63_10 : Bool), v63 = .bool x63_10 ∧ Aside0 (rafterref04_whole.j3 kq l0 l1 x5_1 x6_3 x63_10 = some r) ∧ Aside0 (kq ≤ k3) ∧ Aside0 (Below w.heap.size w wc))
        case first =>
         have H := HC11.out
         clear HC11
         by_cases c12 : x6_3 < (wrap64 ((l0.length : Int) - x5_1))
         ·rw [if_pos c12] at H
          have c12b0 : decide (x6_3 < (wrap64 ((l0.length : Int) - x5_1))) = true := decide_eq_true c12
          clear c12
          (first | rw [c12b0] | (simp only [i64_w, i32_w]; rw [c12b0]) | skip)
          by_cases c13 : x6_3 < (wrap64 ((l1.length : Int) - x5_1))
          ·rw [if_pos c13] at H
           have c13b0 : decide (x6_3 < (wrap64 ((l1.length : Int) - x5_1))) = true := decide_eq_true c13
           clear c13
           obtain ⟨ji14, hji14⟩ : ∃ j_ : Int, (wrap64 ((wrap64 ((l0.length : Int) - 1)) - x6_3)) = j_ := ⟨_, rfl⟩
           replace H : (if 0 ≤ (ji14) then (if (ji14) < (l0.length : Int) then (if 0 ≤ (wrap64 ((wrap64 ((l1.length : Int) - 1)) - x6_3)) then (if (wrap64 ((wrap64 ((l1.length : Int) - 1)) - x6_3)) < (l1.length : Int) then (rafterref04_whole.j3 k3 l0 l1 x5_1 x6_3 ((rdOf ByteArray.empty l0 (ji14)).toList == (rdOf ByteArray.empty l1 (wrap64 ((wrap64 ((l1.length : Int) - 1)) - x6_3))).toList)) else (none)) else (none)) else (none)) else (none)) = some r := by first | (rw [hji14] at H; exact H) | (simp only [hji14] at H ⊢; exact H)
           have hji14w : (IntKind.i64.wrap ((wrap64 ((l0.length : Int) - 1)) - x6_3)) = ji14 := (i64_w _).trans hji14
           by_cases c15 : 0 ≤ (ji14)
           ·rw [if_pos c15] at H
            have c15b0 : decide (0 ≤ (ji14)) = true := decide_eq_true c15
            clear c15
            by_cases c16 : (ji14) < (l0.length : Int)
            ·rw [if_pos c16] at H
             have c16b0 : decide ((ji14) < (l0.length : Int)) = true := decide_eq_true c16
             clear c16
             obtain ⟨ji17, hji17⟩ : ∃ j_ : Int, (wrap64 ((wrap64 ((l1.length : Int) - 1)) - x6_3)) = j_ := ⟨_, rfl⟩
             replace H : (if 0 ≤ (ji17) then (if (ji17) < (l1.length : Int) then (rafterref04_whole.j3 k3 l0 l1 x5_1 x6_3 ((rdOf ByteArray.empty l0 (ji14)).toList == (rdOf ByteArray.empty l1 (ji17)).toList)) else (none)) else (none)) = some r := by first | (rw [hji17] at H; exact H) | (simp only [hji17] at H ⊢; exact H)
             have hji17w : (IntKind.i64.wrap ((wrap64 ((l1.length : Int) - 1)) - x6_3)) = ji17 := (i64_w _).trans hji17
             by_cases c18 : 0 ≤ (ji17)
             ·rw [if_pos c18] at H
              have c18b0 : decide (0 ≤ (ji17)) = true := decide_eq_true c18
              clear c18
              by_cases c19 : (ji17) < (l1.length : Int)
              ·rw [if_pos c19] at H
               have c19b0 : decide ((ji17) < (l1.length : Int)) = true := decide_eq_true c19
               clear c19
               have H' := Aside0.mk H
               clear H
               try go_wp2
               have n0_ := Aside0.mk (below_drew1 HB.out)
               clear HB
               have HB := n0_
               clear n0_
               have p270 : 0 ≤ ((ji14) : Int) := of_decide_eq_true (by first | (with_reducible assumption) | assumption)
               have q270 : (ji14) < (l0.length : Int) := of_decide_eq_true (by first | (with_reducible assumption) | assumption)
               obtain ⟨ad270, e270, hx270_0⟩ := Kd.at_string HR0.out (ji14) p270 q270
               have hw270_0 := hx270_0
               cases e270
               replace hx270_0 := (HB.out.cell (World.block_lt_of_cell? w _ hx270_0)).trans hx270_0
               replace p270 := eq_true p270
               replace q270 := eq_true q270
               have p271 : 0 ≤ ((ji17) : Int) := of_decide_eq_true (by first | (with_reducible assumption) | assumption)
               have q271 : (ji17) < (l1.length : Int) := of_decide_eq_true (by first | (with_reducible assumption) | assumption)
               obtain ⟨ad271, e271, hx271_0⟩ := Kd.at_string HR1.out (ji17) p271 q271
               have hw271_0 := hx271_0
               cases e271
               replace hx271_0 := (HB.out.cell (World.block_lt_of_cell? w _ hx271_0)).trans hx271_0
               replace p271 := eq_true p271
               replace q271 := eq_true q271
               refine start_ (n := 33) (S := fun w' => w'.cell? (ad270.add ((ji14)).toNat) = some (.string (rdOf ByteArray.empty l0 (ji14))) ∧ w'.cell? (ad271.add ((ji17)).toNat) = some (.string (rdOf ByteArray.empty l1 (ji17)))) (ds := []) #[false, false, false, false, false, false, false, false, false, false, false, false, false, false, false, false, false, false, false, false, false, false, false, false, false, false, false, false, false, false, false, false, false] (by kernel_rfl) rfl rfl ⟨((HB.out.cell (World.block_lt_of_cell? w _ hw270_0)).trans hw270_0), ((HB.out.cell (World.block_lt_of_cell? w _ hw271_0)).trans hw271_0)⟩ (fun hHeld => ?_); refine with_tabW rafterref04_whole.tab5 rafterref04_whole.bits5 (fun HT_ HW_ => ?_)
               generalize wr.drew = w20 at HB hx270_0 hx271_0 hHeld ⊢
               refine pq_ 0 (some 31) HT_ ?_; refine pq_ 1 (some 32) HT_ ?_; refine pq_ 2 (some 33) HT_ ?_; refine pq_ 3 (some 34) HT_ ?_; refine pq_ 4 (some 35) HT_ ?_; refine pq_ 5 (some 36) HT_ ?_; refine pq_ 6 (some 37) HT_ ?_; refine pq_ 7 (some 38) HT_ ?_; refine pq_ 8 (some 39) HT_ ?_; refine pq_ 9 (some 40) HT_ ?_; refine pq_ 10 (some 41) HT_ ?_; refine pq_ 11 (some 42) HT_ ?_
               refine pq_ 12 (some 43) HT_ ?_; refine pq_ 13 (some 44) HT_ ?_; refine pq_ 14 (some 45) HT_ ?_; refine pq_ 15 (some 46) HT_ ?_; refine pq_ 16 (some 47) HT_ ?_; refine pq_ 17 (some 48) HT_ ?_; refine pq_ 18 (some 49) HT_ ?_; refine pq_ 19 (some 50) HT_ ?_; refine pq_ 20 (some 51) HT_ ?_; refine pq_ 21 (some 52) HT_ ?_; refine pq_ 23 (some 54) HT_ ?_; refine pq_ 24 (some 55) HT_ ?_
               refine pq_ 25 (some 56) HT_ ?_; refine pq_ 26 (some 57) HT_ ?_; refine pq_ 27 (some 58) HT_ ?_; refine pq_ 28 (some 59) HT_ ?_; refine pq_ 29 (some 60) HT_ ?_; refine tq_ 22 (some 53) HT_ HW_ hHeld ?_; refine tq_ 30 (some 61) HT_ HW_ hHeld ?_; refine pq_ 31 (some 62) HT_ ?_; refine pq_ 32 (some 63) HT_ ?_
               refine done_ (done_of HT_.out (by kernel_rfl)) ?_
               try go_wp2
               go_meet
               case rel => exact ⟨_, (((rdOf ByteArray.empty l0 (ji14)).toList == (rdOf ByteArray.empty l1 (ji17)).toList)), (by first | rfl | (simp; done) | (simp only [← hji14, ← hji17] <;> (first | rfl | simp)) | (simp [*]; done)), H', ⟨by have := HK1.out; have := HJ2.out; have := HK3.out; first | omega | exact Nat.le_refl _⟩, ⟨by repeat (first | (with_reducible first | exact HB.out | apply below_alloc | apply pw_below_drewN | apply below_drew1) | exact HB.out)⟩⟩
              ·rw [if_neg c19] at H
               exact absurd H (by simp)
             ·rw [if_neg c18] at H
              exact absurd H (by simp)
            ·rw [if_neg c16] at H
             exact absurd H (by simp)
           ·rw [if_neg c15] at H
            exact absurd H (by simp)
          ·rw [if_neg c13] at H
           have c13b0 : decide (x6_3 < (wrap64 ((l1.length : Int) - x5_1))) = false := decide_eq_false c13
           clear c13
           have H' := Aside0.mk H
           clear H
           try go_wp2
           have n0_ := Aside0.mk (below_drew1 HB.out)
           clear HB
           have HB := n0_
           clear n0_
           refine start_ (n := 33) (S := fun w' => True) (ds := []) #[false, false, false, false, false, false, false, false, false, false, false, false, false, false, false, false, false, false, false, false, false, false, false, false, false, false, false, false, false, false, false, false, false] (by kernel_rfl) rfl rfl trivial (fun hHeld => ?_); refine with_tabW rafterref04_whole.tab5 rafterref04_whole.bits5 (fun HT_ HW_ => ?_)
           generalize wr.drew = w21 at HB hHeld ⊢
           refine pq_ 0 (some 31) HT_ ?_; refine pq_ 1 (some 32) HT_ ?_; refine pq_ 2 (some 33) HT_ ?_; refine pq_ 3 (some 34) HT_ ?_; refine pq_ 4 (some 35) HT_ ?_; refine pq_ 5 (some 36) HT_ ?_; refine pq_ 6 (some 37) HT_ ?_; refine pq_ 7 (some 38) HT_ ?_; refine pq_ 8 (some 39) HT_ ?_; refine pq_ 9 (some 40) HT_ ?_; refine pq_ 10 (some 41) HT_ ?_; refine pq_ 11 (some 42) HT_ ?_; refine pq_ 12 (some 43) HT_ ?_
           refine pq_ 13 (some 44) HT_ ?_; refine pq_ 14 (some 45) HT_ ?_; refine pf_ 15 (some 46) HT_ ?_; refine pf_ 16 (some 47) HT_ ?_; refine pf_ 17 (some 48) HT_ ?_; refine pf_ 18 (some 49) HT_ ?_; refine pf_ 19 (some 50) HT_ ?_; refine pf_ 20 (some 51) HT_ ?_; refine pf_ 21 (some 52) HT_ ?_; refine pf_ 22 (some 53) HT_ ?_; refine pf_ 23 (some 54) HT_ ?_; refine pf_ 24 (some 55) HT_ ?_
           refine pf_ 25 (some 56) HT_ ?_; refine pf_ 26 (some 57) HT_ ?_; refine pf_ 27 (some 58) HT_ ?_; refine pf_ 28 (some 59) HT_ ?_; refine pf_ 29 (some 60) HT_ ?_; refine pf_ 30 (some 61) HT_ ?_; refine pf_ 31 (some 62) HT_ ?_; refine pq_ 32 (some 63) HT_ ?_
           refine done_ (done_of HT_.out (by kernel_rfl)) ?_
           try go_wp2
           go_meet
           case rel => exact ⟨_, (false), (by first | rfl | (simp; done) | (simp [*]; done)), H', ⟨by have := HK1.out; have := HJ2.out; have := HK3.out; first | omega | exact Nat.le_refl _⟩, ⟨by repeat (first | (with_reducible first | exact HB.out | apply below_alloc | apply pw_below_drewN | apply below_drew1) | exact HB.out)⟩⟩
         ·rw [if_neg c12] at H
          have c12b0 : decide (x6_3 < (wrap64 ((l0.length : Int) - x5_1))) = false := decide_eq_false c12
          clear c12
          (first | rw [c12b0] | (simp only [i64_w, i32_w]; rw [c12b0]) | skip)
          have H' := Aside0.mk H
          clear H
          try go_wp2
          have n0_ := Aside0.mk (below_drew1 HB.out)
          clear HB
          have HB := n0_
          clear n0_
          refine start_ (n := 33) (S := fun w' => True) (ds := []) #[false, false, false, false, false, false, false, false, false, false, false, false, false, false, false, false, false, false, false, false, false, false, false, false, false, false, false, false, false, false, false, false, false] (by kernel_rfl) rfl rfl trivial (fun hHeld => ?_); refine with_tabW rafterref04_whole.tab5 rafterref04_whole.bits5 (fun HT_ HW_ => ?_)
          generalize wr.drew = w22 at HB hHeld ⊢
          refine pq_ 0 (some 31) HT_ ?_; refine pq_ 1 (some 32) HT_ ?_; refine pq_ 2 (some 33) HT_ ?_; refine pq_ 3 (some 34) HT_ ?_; refine pq_ 4 (some 35) HT_ ?_; refine pq_ 5 (some 36) HT_ ?_; refine pq_ 6 (some 37) HT_ ?_; refine pf_ 7 (some 38) HT_ ?_; refine pf_ 8 (some 39) HT_ ?_; refine pf_ 9 (some 40) HT_ ?_; refine pf_ 10 (some 41) HT_ ?_; refine pf_ 11 (some 42) HT_ ?_; refine pf_ 12 (some 43) HT_ ?_
          refine pq_ 13 (some 44) HT_ ?_; refine pq_ 14 (some 45) HT_ ?_; refine pf_ 15 (some 46) HT_ ?_; refine pf_ 16 (some 47) HT_ ?_; refine pf_ 17 (some 48) HT_ ?_; refine pf_ 18 (some 49) HT_ ?_; refine pf_ 19 (some 50) HT_ ?_; refine pf_ 20 (some 51) HT_ ?_; refine pf_ 21 (some 52) HT_ ?_; refine pf_ 22 (some 53) HT_ ?_; refine pf_ 23 (some 54) HT_ ?_; refine pf_ 24 (some 55) HT_ ?_
          refine pf_ 25 (some 56) HT_ ?_; refine pf_ 26 (some 57) HT_ ?_; refine pf_ 27 (some 58) HT_ ?_; refine pf_ 28 (some 59) HT_ ?_; refine pf_ 29 (some 60) HT_ ?_; refine pf_ 30 (some 61) HT_ ?_; refine pf_ 31 (some 62) HT_ ?_; refine pq_ 32 (some 63) HT_ ?_
          refine done_ (done_of HT_.out (by kernel_rfl)) ?_
          try go_wp2
          go_meet
          case rel => exact ⟨_, (false), (by first | rfl | (simp; done) | (simp [*]; done)), H', ⟨by have := HK1.out; have := HJ2.out; have := HK3.out; first | omega | exact Nat.le_refl _⟩, ⟨by repeat (first | (with_reducible first | exact HB.out | apply below_alloc | apply pw_below_drewN | apply below_drew1) | exact HB.out)⟩⟩
        case rest =>
         clear HC11
         try clear c1
         try clear p2
         try clear p6
         try clear c12
         try clear c12b0
         try clear c13
         try clear c13b0
         try clear c15
         try clear c16
         try clear c18
         try clear c19
         obtain ⟨kq, x63_10, rfl, HA, HJ10, HB⟩ := hcut
         cases kq with
         | zero => exact absurd HA.out (by simp [rafterref04_whole.j3])
         | succ kj10 =>
          have H := HA.out
          clear HA
          simp only [rafterref04_whole.j3] at H
          by_cases c23 : x63_10 = true
          ·subst c23
           have H1 : (rafterref04_whole.l1 kj10 l0 l1 x5_1 (wrap64 (x6_3 + 1))) = some r := by rw [if_pos rfl] at H; exact H
           clear H
           have H := H1
           clear H1
           have H' := Aside0.mk H
           clear H
           go_wp2
           go_roundg kj10
           case measure => have := HK1.out; have := HJ2.out; have := HK3.out; have := HJ10.out; omega
           case rel => exact ⟨(wrap64 (x6_3 + 1)), (by first | rfl | (simp; done) | (simp [*]; done)), H', ⟨by have := HK1.out; have := HJ2.out; have := HK3.out; have := HJ10.out; omega⟩, ⟨by repeat (first | (with_reducible first | exact HB.out | apply below_alloc | apply pw_below_drewN | apply below_drew1) | exact HB.out)⟩⟩
          ·replace c23 := Bool.eq_false_iff.mpr c23
           subst c23
           have H1 : (if 0 ≤ x5_1 then (if x5_1 ≤ (wrap64 ((l0.length : Int) - x6_3)) then (if (wrap64 ((l0.length : Int) - x6_3)) ≤ (l0.length : Int) then (if ([] : List ByteArray).length + ((l0.take ((wrap64 ((l0.length : Int) - x6_3)) : Int).toNat).drop (x5_1 : Int).toNat).length < 8796093022208 then ((some (([] : List ByteArray) ++ ((l0.take ((wrap64 ((l0.length : Int) - x6_3)) : Int).toNat).drop (x5_1 : Int).toNat) : List ByteArray)).bind fun y274 => (if x5_1 ≤ (wrap64 ((l1.length : Int) - x6_3)) then (if (wrap64 ((l1.length : Int) - x6_3)) ≤ (l1.length : Int) then (if ([] : List ByteArray).length + ((l1.take ((wrap64 ((l1.length : Int) - x6_3)) : Int).toNat).drop (x5_1 : Int).toNat).length < 8796093022208 then ((some (([] : List ByteArray) ++ ((l1.take ((wrap64 ((l1.length : Int) - x6_3)) : Int).toNat).drop (x5_1 : Int).toNat) : List ByteArray)).bind fun y278 => (if (wrap64 ((y274.length : Int) + (y278.length : Int))) = 0 then (some ([] : List (S66))) else (some (([(⟨x5_1, y274, y278⟩ : S66)] : List (S66)))))) else (none)) else (none)) else (none))) else (none)) else (none)) else (none)) else (none)) = some r := by rw [if_neg (show ¬ (false = true) by decide)] at H; exact H
           clear H
           have H := H1
           clear H1
           by_cases c24 : 0 ≤ x5_1
           ·rw [if_pos c24] at H
            have c24b0 := eq_true c24
            have c24b1 : decide (0 ≤ x5_1) = true := decide_eq_true c24
            clear c24
            by_cases c25 : x5_1 ≤ (wrap64 ((l0.length : Int) - x6_3))
            ·rw [if_pos c25] at H
             have c25b0 := eq_true c25
             have c25b1 : decide (x5_1 ≤ (wrap64 ((l0.length : Int) - x6_3))) = true := decide_eq_true c25
             clear c25
             by_cases c26 : (wrap64 ((l0.length : Int) - x6_3)) ≤ (l0.length : Int)
             ·rw [if_pos c26] at H
              have c26b0 := eq_true c26
              have c26b1 : decide ((wrap64 ((l0.length : Int) - x6_3)) ≤ (l0.length : Int)) = true := decide_eq_true c26
              clear c26
              by_cases c27 : ([] : List ByteArray).length + ((l0.take ((wrap64 ((l0.length : Int) - x6_3)) : Int).toNat).drop (x5_1 : Int).toNat).length < 8796093022208
              ·rw [if_pos c27] at H
               have LMc27 := Aside0.mk c27
               clear c27
               obtain ⟨y274, hy274⟩ : ∃ y_ : List ByteArray, y_ = (([] : List ByteArray) ++ ((l0.take ((wrap64 ((l0.length : Int) - x6_3)) : Int).toNat).drop (x5_1 : Int).toNat)) := ⟨_, rfl⟩
               replace H : (if x5_1 ≤ (wrap64 ((l1.length : Int) - x6_3)) then (if (wrap64 ((l1.length : Int) - x6_3)) ≤ (l1.length : Int) then (if ([] : List ByteArray).length + ((l1.take ((wrap64 ((l1.length : Int) - x6_3)) : Int).toNat).drop (x5_1 : Int).toNat).length < 8796093022208 then ((some (([] : List ByteArray) ++ ((l1.take ((wrap64 ((l1.length : Int) - x6_3)) : Int).toNat).drop (x5_1 : Int).toNat) : List ByteArray)).bind fun y278 => (if (wrap64 ((y274.length : Int) + (y278.length : Int))) = 0 then (some ([] : List (S66))) else (some (([(⟨x5_1, y274, y278⟩ : S66)] : List (S66)))))) else (none)) else (none)) else (none)) = some r := by first | (rw [hy274]; with_reducible exact H) | (have H2_ := (Option.bind_some _ _).symm.trans H; rw [hy274]; with_reducible exact H2_) | (have H2_ := (Option.bind_some _ _).symm.trans H; with_reducible exact H2_) | with_reducible exact H | (rw [hy274]; exact H) | exact H
               have Ny274 := Aside0.mk hy274
               clear hy274
               have c28b0 := eq_true (of_decide_eq_true (by first | (with_reducible assumption) | assumption) : 0 ≤ x5_1)
               by_cases c29 : x5_1 ≤ (wrap64 ((l1.length : Int) - x6_3))
               ·rw [if_pos c29] at H
                have c29b0 := eq_true c29
                have c29b1 : decide (x5_1 ≤ (wrap64 ((l1.length : Int) - x6_3))) = true := decide_eq_true c29
                clear c29
                by_cases c30 : (wrap64 ((l1.length : Int) - x6_3)) ≤ (l1.length : Int)
                ·rw [if_pos c30] at H
                 have c30b0 := eq_true c30
                 have c30b1 : decide ((wrap64 ((l1.length : Int) - x6_3)) ≤ (l1.length : Int)) = true := decide_eq_true c30
                 clear c30
                 by_cases c31 : ([] : List ByteArray).length + ((l1.take ((wrap64 ((l1.length : Int) - x6_3)) : Int).toNat).drop (x5_1 : Int).toNat).length < 8796093022208
                 ·rw [if_pos c31] at H
                  have LMc31 := Aside0.mk c31
                  clear c31
                  obtain ⟨y278, hy278⟩ : ∃ y_ : List ByteArray, y_ = (([] : List ByteArray) ++ ((l1.take ((wrap64 ((l1.length : Int) - x6_3)) : Int).toNat).drop (x5_1 : Int).toNat)) := ⟨_, rfl⟩
                  replace H : (if (wrap64 ((y274.length : Int) + (y278.length : Int))) = 0 then (some ([] : List (S66))) else (some (([(⟨x5_1, y274, y278⟩ : S66)] : List (S66))))) = some r := by first | (rw [hy278]; with_reducible exact H) | (have H2_ := (Option.bind_some _ _).symm.trans H; rw [hy278]; with_reducible exact H2_) | (have H2_ := (Option.bind_some _ _).symm.trans H; with_reducible exact H2_) | with_reducible exact H | (rw [hy278]; exact H) | exact H
                  have Ny278 := Aside0.mk hy278
                  clear hy278
                  by_cases c32 : (wrap64 ((y274.length : Int) + (y278.length : Int))) = 0
                  ·rw [if_pos c32] at H
                   have c32b0 : ((wrap64 ((y274.length : Int) + (y278.length : Int))) == 0) = true := beq_iff_eq.mpr c32
                   have c32b1 : ((wrap64 ((y274.length : Int) + (y278.length : Int))) != 0) = false := bne_eq_false_iff_eq.mpr c32
                   clear c32
                   obtain rfl := Option.some.inj H
                   try go_wp2_with (first | ((with_reducible refine gate_dst (N := 7) rfl ?_); (try (refine gate_guard (by rfl) ?_; dsimp only)); refine box_event ?hg (N := 7) ?hd (cs := #[.int .i64 0, .slice none 0 0, .slice none 0 0]) (t := 66) ?hr ?_; (case hd => rfl); (case hg => rfl); (case hr => first | (go_simp; done) | (go_simp; rfl)); intro gb272 hg w33 hbox hb; have n0_ := Aside0.mk (below_step (by repeat (first | (with_reducible first | exact HB.out | apply below_alloc | apply pw_below_drewN | apply below_drew1) | exact HB.out)) hb); have n1_ := Aside0.mk (hbox); have n2_ := Aside0.mk ((by rw [hg]; exact (below_size (by repeat (first | (with_reducible first | exact HB.out | apply below_alloc | apply pw_below_drewN | apply below_drew1) | exact HB.out))) : w.heap.size ≤ gb272)); have n3_ := Aside0.mk ((by rw [hg]; exact (below_size (by repeat (first | (with_reducible first | exact HB.out | apply below_alloc | apply pw_below_drewN | apply below_drew1) | exact HB.out))) : w.heap.size ≤ gb272)); clear HB; have HB := n0_; have BK272 := n1_; have GW272 := n2_; have GE272 := n3_; clear n0_ n1_ n2_ n3_; clear hb hbox hg; have hcz34_0 : w33.cell? ⟨gb272, 0, none⟩ = some (.int .i64 0) := (blk_cell BK272.out 0).trans rfl; have hcz34_1 : w33.cell? ⟨gb272, 1, none⟩ = some (.slice none 0 0) := (blk_cell BK272.out 1).trans rfl; have hcz34_2 : w33.cell? ⟨gb272, 2, none⟩ = some (.slice none 0 0) := (blk_cell BK272.out 2).trans rfl; have hfz34_0 := blk_frozen BK272.out 0; have hfz34_1 := blk_frozen BK272.out 1; have hfz34_2 := blk_frozen BK272.out 2))
                   have n0_ : Aside0 ((((w33.setCell ⟨gb272, 0, none⟩ (.int .i64 x5_1)).setCell ⟨gb272, 1, none⟩ (.slice none 0 0)).setCell ⟨gb272, 2, none⟩ (.slice none 0 0)).heap[gb272]? = some (.cells #[.int .i64 x5_1, .slice none 0 0, .slice none 0 0] 66 (0, 0))) := ⟨by (with_reducible repeat (first | refine blk_drewN ?_ _ | refine blk_drew ?_ | refine blk_alloc ?_ _)); refine blk_put (cs := #[.int .i64 x5_1, .slice none 0 0, .slice none 0 0]) ?_ 2 _ rfl; (with_reducible repeat (first | refine blk_drewN ?_ _ | refine blk_drew ?_ | refine blk_alloc ?_ _)); refine blk_put (cs := #[.int .i64 x5_1, .slice none 0 0, .slice none 0 0]) ?_ 1 _ rfl; (with_reducible repeat (first | refine blk_drewN ?_ _ | refine blk_drew ?_ | refine blk_alloc ?_ _)); refine blk_put (cs := #[.int .i64 0, .slice none 0 0, .slice none 0 0]) ?_ 0 _ rfl; (with_reducible repeat (first | refine blk_drewN ?_ _ | refine blk_drew ?_ | refine blk_alloc ?_ _)); exact BK272.out⟩
                   have n1_ : Aside0 (Below w.heap.size w (((w33.setCell ⟨gb272, 0, none⟩ (.int .i64 x5_1)).setCell ⟨gb272, 1, none⟩ (.slice none 0 0)).setCell ⟨gb272, 2, none⟩ (.slice none 0 0))) := ⟨by repeat (first | (with_reducible first | exact HB.out | apply below_alloc | apply pw_below_drewN | apply below_drew1 | refine below_set ?_ GE272.out) | exact HB.out)⟩
                   (try clear BK272)
                   (try clear HB)
                   generalize (((w33.setCell ⟨gb272, 0, none⟩ (.int .i64 x5_1)).setCell ⟨gb272, 1, none⟩ (.slice none 0 0)).setCell ⟨gb272, 2, none⟩ (.slice none 0 0)) = w35 at n0_ n1_ ⊢
                   have BK272 := n0_
                   have HB := n1_
                   clear n0_ n1_
                   have n0_ := Aside0.mk (blk_drew BK272.out)
                   have n1_ := Aside0.mk (below_drew1 HB.out)
                   clear BK272
                   clear HB
                   have BK272 := n0_
                   have HB := n1_
                   clear n0_ n1_
                   obtain ⟨i037, hi037, _, hsz37, _⟩ := info_parts info9
                   obtain ⟨A37, hcut37, hA37, hC37⟩ := print_mid_of (P := Try.prog) Value.string (⟨#[]⟩ : ByteArray) 22 9 .i64 .i64 Try.underlying22 hi037 hsz37 A0 c0 l0 x5_1 (wrap64 ((l0.length : Int) - x6_3)) (of_decide_eq_true (by first | (with_reducible assumption) | assumption)) (by first | omega | exact of_decide_eq_true (by first | (with_reducible assumption) | assumption)) (of_decide_eq_true (by first | (with_reducible assumption) | assumption)) HC0.out
                   have HR273 := Aside0.mk (Kd.C_of_reads (h1 := fun _ => rfl) (hA37 _ (Kd.reads_of_C HR0.out)))
                   have HC273 := Aside0.mk hC37
                   clear hA37 hC37 hi037 hsz37
                   refine start_ (n := 12) (S := fun w' => w'.cell? ⟨gb272, 0, none⟩ = some (.int .i64 x5_1) ∧ w'.cell? ⟨gb272, 1, none⟩ = some (.slice none 0 0) ∧ w'.cell? ⟨gb272, 2, none⟩ = some (.slice none 0 0)) (ds := [11]) #[false, false, false, false, false, false, false, false, false, false, false, false] (by kernel_rfl) rfl rfl ⟨(blk_cell BK272.out 0).trans rfl, (blk_cell BK272.out 1).trans rfl, (blk_cell BK272.out 2).trans rfl⟩ (fun hHeld => ?_); refine with_tabW rafterref04_whole.tab8 rafterref04_whole.bits8 (fun HT_ HW_ => ?_)
                   generalize w35.drew = w36 at BK272 HB HR273 hHeld ⊢
                   refine pq_ 0 (some 68) HT_ ?_; refine pq_ 2 (some 70) HT_ ?_; refine pq_ 3 (some 71) HT_ ?_; refine pq_ 4 (some 72) HT_ ?_; refine pq_ 5 (some 73) HT_ ?_; refine pq_ 6 (some 74) HT_ ?_; refine pq_ 7 (some 75) HT_ ?_; refine pq_ 8 (some 76) HT_ ?_; refine tq_ 1 (some 69) HT_ HW_ hHeld ?_
                   refine one_ (i := 9) (N := some 77) #[true, true, true, true, true, true, true, true, true, true, false, false] rfl rfl (one_of HT_.out (by kernel_rfl)) (by decide) (fun K hK => ?_)
                   refine Kd.R_append_rows_step Kd.string (w0 := w) w.heap.size (by rfl) (.tmp 69) (.tmp 76) 22 9 (.string ⟨#[]⟩) 16 rfl Try.underlying22 info9 rfl (by decide) (by omega) (.slice none 0 0) ([] : List ByteArray) ((l0.take ((wrap64 ((l0.length : Int) - x6_3)) : Int).toNat).drop (x5_1 : Int).toNat) _ _ _ (fun k_ => (w.heap.size ≤ k_)) (fun _ => False) rfl rfl ?aO ?aR (fun _ _ h => h) (fun _ h => h.elim) ?aF ?aB ?aS ?aL ?_
                   (case aR => first | (rw [← show ((l0.take ((wrap64 ((l0.length : Int) - x6_3)) : Int).toNat).drop (x5_1 : Int).toNat).length = ((wrap64 ((l0.length : Int) - x6_3)).toNat - x5_1.toNat) from (by rw [List.length_drop, List.length_take]; have h_ : ((wrap64 ((l0.length : Int) - x6_3)) : Int) ≤ (l0.length : Int) := of_decide_eq_true (by first | (with_reducible assumption) | assumption); omega)]; repeat (first | exact (Kd.C_below HR273.out HB.out) | (with_reducible refine Kd.C_alloc ?_ _) | (with_reducible refine Kd.C_drewN ?_ _) | (with_reducible refine Kd.C_drew ?_))) | (repeat (first | exact (Kd.C_below HR273.out HB.out) | (with_reducible refine Kd.C_alloc ?_ _) | (with_reducible refine Kd.C_drewN ?_ _) | (with_reducible refine Kd.C_drew ?_))))
                   (case aB => exact (by repeat (first | (with_reducible first | exact HB.out | apply below_alloc | apply pw_below_drewN | apply below_drew1 | refine below_set ?_ GE272.out) | exact HB.out)))
                   (case aF => exact (fun k_ hk => (Nat.le_trans (below_size (by repeat (first | (with_reducible first | exact HB.out | apply below_alloc | apply pw_below_drewN | apply below_drew1 | refine below_set ?_ GE272.out) | exact HB.out))) hk)))
                   (case aO => exact ((Kd.R_nil _ _ _ _ (fun k_ => (w.heap.size ≤ k_)))))
                   (case aS => exact (below_size (by repeat (first | (with_reducible first | exact HB.out | apply below_alloc | apply pw_below_drewN | apply below_drew1 | refine below_set ?_ GE272.out) | exact HB.out))))
                   (case aL => have := LMc27.out; have hlx_ := (show ((l0.take ((wrap64 ((l0.length : Int) - x6_3)) : Int).toNat).drop (x5_1 : Int).toNat).length = ((wrap64 ((l0.length : Int) - x6_3)).toNat - x5_1.toNat) from (by rw [List.length_drop, List.length_take]; have h_ : ((wrap64 ((l0.length : Int) - x6_3)) : Int) ≤ (l0.length : Int) := of_decide_eq_true (by first | (with_reducible assumption) | assumption); omega)); omega)
                   intro v275 w38 ho hb hg hat
                   rw [← Ny274.out] at ho
                   have n0_ := Aside0.mk (blk_grown (g := gb272) (o := .cells #[.int .i64 x5_1, .slice none 0 0, .slice none 0 0] 66 (0, 0)) (by (with_reducible repeat (first | refine blk_drewN ?_ _ | refine blk_drew ?_ | refine blk_alloc ?_ _)); exact BK272.out) hg (by simp [Value.ownBlock]))
                   have n1_ := Aside0.mk (hb)
                   have n2_ := Aside0.mk (ho)
                   clear BK272
                   clear HB
                   have BK272 := n0_
                   have HB := n1_
                   have HO276 := n2_
                   clear n0_ n1_ n2_
                   clear ho hb hg hat
                   obtain ⟨Ao39, co39, eo39⟩ := Kd.R_slice HO276.out
                   (first | subst eo39 | (injection eo39 with f1_ f2_ f3_; have f4_ := f1_.symm; have f5_ := f3_.symm; clear f1_ f2_ f3_; subst f4_; subst f5_))
                   refine hK.out _ _ ⟨(blk_cell BK272.out 0).trans rfl, (blk_cell BK272.out 1).trans rfl, (blk_cell BK272.out 2).trans rfl⟩ (fun hHeld => ?_)
                   clear hK K
                   refine norm_ (a' := ?_) ?_ ?_
                   rotate_left
                   ·show Act.put _ (some 77) _ = _
                    simp only [Act.put, List.setIfInBounds_toArray, List.set_cons_zero, List.set_cons_succ, i64_w, i32_w]
                    rfl
                   refine pq_ 10 (some 78) HT_ ?_
                   refine last_ (i := 11) (N := none) #[true, true, true, true, true, true, true, true, true, true, true, true] rfl rfl (one_of HT_.out (by kernel_rfl)) (by decide) (fun K hK => ?_)
                   have hs40 : w38.cell? ⟨gb272, 1, none⟩ = some (.slice none 0 0) := (blk_cell BK272.out 1).trans rfl
                   have hfs40 := blk_frozen BK272.out 1
                   refine skip_ (w1 := ?_) (by rfl) rfl ?_ ?_
                   rotate_left
                   ·go_simp
                    rfl
                   refine hK.out _ _ ?_
                   clear hK K
                   refine done_ (done_of HT_.out (by kernel_rfl)) ?_
                   try go_wp2
                   have n0_ : Aside0 (Kd.R Kd.string 9 (w38.setCell ⟨gb272, 1, none⟩ (.slice Ao39 y274.length co39)) w.heap.size (fun k_ => (w.heap.size ≤ k_)) (.slice Ao39 y274.length co39) y274) := ⟨by (with_reducible repeat (first | apply Kd.R_alloc | apply Kd.R_drewN | apply Kd.R_drew)); exact Kd.R_mono (Kd.R_far (p := ⟨gb272, 1, none⟩) (Kd.R_types HO276.out BK272.out (by decide)) (fun _ hk => hk.2) (.slice Ao39 y274.length co39)) (fun _ hk => hk.1)⟩
                   have n1_ : Aside0 ((w38.setCell ⟨gb272, 1, none⟩ (.slice Ao39 y274.length co39)).heap[gb272]? = some (.cells #[.int .i64 x5_1, .slice Ao39 y274.length co39, .slice none 0 0] 66 (0, 0))) := ⟨by (with_reducible repeat (first | refine blk_drewN ?_ _ | refine blk_drew ?_ | refine blk_alloc ?_ _)); refine blk_put (cs := #[.int .i64 x5_1, .slice none 0 0, .slice none 0 0]) ?_ 1 _ rfl; (with_reducible repeat (first | refine blk_drewN ?_ _ | refine blk_drew ?_ | refine blk_alloc ?_ _)); exact BK272.out⟩
                   have n2_ : Aside0 (Below w.heap.size w (w38.setCell ⟨gb272, 1, none⟩ (.slice Ao39 y274.length co39))) := ⟨by repeat (first | (with_reducible first | exact HB.out | apply below_alloc | apply pw_below_drewN | apply below_drew1 | refine below_set ?_ GE272.out) | exact HB.out)⟩
                   (try clear HO276)
                   (try clear BK272)
                   (try clear HB)
                   generalize (w38.setCell ⟨gb272, 1, none⟩ (.slice Ao39 y274.length co39)) = w41 at n0_ n1_ n2_ ⊢
                   have HO276 := n0_
                   have BK272 := n1_
                   have HB := n2_
                   clear n0_ n1_ n2_
                   have n0_ := Aside0.mk (Kd.R_drew HO276.out)
                   have n1_ := Aside0.mk (blk_drew BK272.out)
                   have n2_ := Aside0.mk (below_drew1 HB.out)
                   clear HO276
                   clear BK272
                   clear HB
                   have HO276 := n0_
                   have BK272 := n1_
                   have HB := n2_
                   clear n0_ n1_ n2_
                   obtain ⟨i043, hi043, _, hsz43, _⟩ := info_parts info9
                   obtain ⟨A43, hcut43, hA43, hC43⟩ := print_mid_of (P := Try.prog) Value.string (⟨#[]⟩ : ByteArray) 22 9 .i64 .i64 Try.underlying22 hi043 hsz43 A1 c1 l1 x5_1 (wrap64 ((l1.length : Int) - x6_3)) (of_decide_eq_true (by first | (with_reducible assumption) | assumption)) (by first | omega | exact of_decide_eq_true (by first | (with_reducible assumption) | assumption)) (of_decide_eq_true (by first | (with_reducible assumption) | assumption)) HC1.out
                   have HR277 := Aside0.mk (Kd.C_of_reads (h1 := fun _ => rfl) (hA43 _ (Kd.reads_of_C HR1.out)))
                   have HC277 := Aside0.mk hC43
                   clear hA43 hC43 hi043 hsz43
                   refine start_ (n := 12) (S := fun w' => w'.cell? ⟨gb272, 0, none⟩ = some (.int .i64 x5_1) ∧ w'.cell? ⟨gb272, 1, none⟩ = some (.slice Ao39 y274.length co39) ∧ w'.cell? ⟨gb272, 2, none⟩ = some (.slice none 0 0)) (ds := [11]) #[false, false, false, false, false, false, false, false, false, false, false, false] (by kernel_rfl) rfl rfl ⟨(blk_cell BK272.out 0).trans rfl, (blk_cell BK272.out 1).trans rfl, (blk_cell BK272.out 2).trans rfl⟩ (fun hHeld => ?_); refine with_tabW rafterref04_whole.tab9 rafterref04_whole.bits9 (fun HT_ HW_ => ?_)
                   generalize w41.drew = w42 at HO276 BK272 HB HR277 hHeld ⊢
                   refine pq_ 0 (some 79) HT_ ?_; refine pq_ 2 (some 81) HT_ ?_; refine pq_ 3 (some 82) HT_ ?_; refine pq_ 4 (some 83) HT_ ?_; refine pq_ 5 (some 84) HT_ ?_; refine pq_ 6 (some 85) HT_ ?_; refine pq_ 7 (some 86) HT_ ?_; refine pq_ 8 (some 87) HT_ ?_; refine tq_ 1 (some 80) HT_ HW_ hHeld ?_
                   refine one_ (i := 9) (N := some 88) #[true, true, true, true, true, true, true, true, true, true, false, false] rfl rfl (one_of HT_.out (by kernel_rfl)) (by decide) (fun K hK => ?_)
                   refine Kd.R_append_rows_step Kd.string (w0 := w) w.heap.size (by rfl) (.tmp 80) (.tmp 87) 22 9 (.string ⟨#[]⟩) 16 rfl Try.underlying22 info9 rfl (by decide) (by omega) (.slice none 0 0) ([] : List ByteArray) ((l1.take ((wrap64 ((l1.length : Int) - x6_3)) : Int).toNat).drop (x5_1 : Int).toNat) _ _ _ (fun k_ => (w.heap.size ≤ k_) ∧ some k_ ≠ (.slice Ao39 y274.length co39 : Value).ownBlock) (fun _ => False) rfl rfl ?aO ?aR (fun _ _ h => h) (fun _ h => h.elim) ?aF ?aB ?aS ?aL ?_
                   (case aR => first | (rw [← show ((l1.take ((wrap64 ((l1.length : Int) - x6_3)) : Int).toNat).drop (x5_1 : Int).toNat).length = ((wrap64 ((l1.length : Int) - x6_3)).toNat - x5_1.toNat) from (by rw [List.length_drop, List.length_take]; have h_ : ((wrap64 ((l1.length : Int) - x6_3)) : Int) ≤ (l1.length : Int) := of_decide_eq_true (by first | (with_reducible assumption) | assumption); omega)]; repeat (first | exact (Kd.C_below HR277.out HB.out) | (with_reducible refine Kd.C_alloc ?_ _) | (with_reducible refine Kd.C_drewN ?_ _) | (with_reducible refine Kd.C_drew ?_))) | (repeat (first | exact (Kd.C_below HR277.out HB.out) | (with_reducible refine Kd.C_alloc ?_ _) | (with_reducible refine Kd.C_drewN ?_ _) | (with_reducible refine Kd.C_drew ?_))))
                   (case aB => exact (by repeat (first | (with_reducible first | exact HB.out | apply below_alloc | apply pw_below_drewN | apply below_drew1 | refine below_set ?_ GE272.out) | exact HB.out)))
                   (case aF => exact (fun k_ hk => ⟨(Nat.le_trans (below_size (by repeat (first | (with_reducible first | exact HB.out | apply below_alloc | apply pw_below_drewN | apply below_drew1 | refine below_set ?_ GE272.out) | exact HB.out))) hk), Kd.fresh' (Kd.R_lt (by (with_reducible repeat (first | apply Kd.R_alloc | apply Kd.R_drewN | apply Kd.R_drew)); exact HO276.out)) k_ hk⟩))
                   (case aO => exact ((Kd.R_nil _ _ _ _ (fun k_ => (w.heap.size ≤ k_) ∧ some k_ ≠ (.slice Ao39 y274.length co39 : Value).ownBlock))))
                   (case aS => exact (below_size (by repeat (first | (with_reducible first | exact HB.out | apply below_alloc | apply pw_below_drewN | apply below_drew1 | refine below_set ?_ GE272.out) | exact HB.out))))
                   (case aL => have := LMc31.out; have hlx_ := (show ((l1.take ((wrap64 ((l1.length : Int) - x6_3)) : Int).toNat).drop (x5_1 : Int).toNat).length = ((wrap64 ((l1.length : Int) - x6_3)).toNat - x5_1.toNat) from (by rw [List.length_drop, List.length_take]; have h_ : ((wrap64 ((l1.length : Int) - x6_3)) : Int) ≤ (l1.length : Int) := of_decide_eq_true (by first | (with_reducible assumption) | assumption); omega)); omega)
                   intro v279 w44 ho hb hg hat
                   rw [← Ny278.out] at ho
                   have n0_ := Aside0.mk (blk_grown (g := gb272) (o := .cells #[.int .i64 x5_1, .slice Ao39 y274.length co39, .slice none 0 0] 66 (0, 0)) (by (with_reducible repeat (first | refine blk_drewN ?_ _ | refine blk_drew ?_ | refine blk_alloc ?_ _)); exact BK272.out) hg (by simp [Value.ownBlock]))
                   have n1_ := Aside0.mk (Kd.R_after (Kd.R_apart_nil (by (with_reducible repeat (first | apply Kd.R_alloc | apply Kd.R_drewN | apply Kd.R_drew)); exact HO276.out)) hg hat)
                   have n2_ := Aside0.mk (hb)
                   have n3_ := Aside0.mk (ho)
                   clear BK272
                   clear HO276
                   clear HB
                   have BK272 := n0_
                   have HO276 := n1_
                   have HB := n2_
                   have HO280 := n3_
                   clear n0_ n1_ n2_ n3_
                   clear ho hb hg hat
                   obtain ⟨Ao45, co45, eo45⟩ := Kd.R_slice HO280.out
                   (first | subst eo45 | (injection eo45 with f1_ f2_ f3_; have f4_ := f1_.symm; have f5_ := f3_.symm; clear f1_ f2_ f3_; subst f4_; subst f5_))
                   refine hK.out _ _ ⟨(blk_cell BK272.out 0).trans rfl, (blk_cell BK272.out 1).trans rfl, (blk_cell BK272.out 2).trans rfl⟩ (fun hHeld => ?_)
                   clear hK K
                   refine norm_ (a' := ?_) ?_ ?_
                   rotate_left
                   ·show Act.put _ (some 88) _ = _
                    simp only [Act.put, List.setIfInBounds_toArray, List.set_cons_zero, List.set_cons_succ, i64_w, i32_w]
                    rfl
                   refine pq_ 10 (some 89) HT_ ?_
                   refine last_ (i := 11) (N := none) #[true, true, true, true, true, true, true, true, true, true, true, true] rfl rfl (one_of HT_.out (by kernel_rfl)) (by decide) (fun K hK => ?_)
                   have hs46 : w44.cell? ⟨gb272, 2, none⟩ = some (.slice none 0 0) := (blk_cell BK272.out 2).trans rfl
                   have hfs46 := blk_frozen BK272.out 2
                   refine skip_ (w1 := ?_) (by rfl) rfl ?_ ?_
                   rotate_left
                   ·go_simp
                    rfl
                   refine hK.out _ _ ?_
                   clear hK K
                   refine done_ (done_of HT_.out (by kernel_rfl)) ?_
                   have hcz47_0 : w44.cell? ⟨gb272, 0, none⟩ = some (.int .i64 x5_1) := (blk_cell BK272.out 0).trans rfl
                   have hcz47_1 : w44.cell? ⟨gb272, 1, none⟩ = some (.slice Ao39 y274.length co39) := (blk_cell BK272.out 1).trans rfl
                   have hcz47_2 : w44.cell? ⟨gb272, 2, none⟩ = some (.slice none 0 0) := (blk_cell BK272.out 2).trans rfl
                   have hfz47_0 := blk_frozen BK272.out 0
                   have hfz47_1 := blk_frozen BK272.out 1
                   have hfz47_2 := blk_frozen BK272.out 2
                   try go_wp2
                   go_ret
                   exact ⟨_, by first | rfl | (simp [errW_none, errW_some] <;> rfl) | (simp [*, errW_none, errW_some] <;> rfl), by first | exact Kd.S_nil _ _ _ _ _ | exact Kd.N_nil _ _ _ _ _ | exact Kd.V_nil _ _ _ _ _ | exact Kd.Q_nil _ _ _ _ _ | exact Kd.R_nil _ _ _ _ _, by repeat (first | (with_reducible first | exact HB.out | apply below_alloc | apply pw_below_drewN | apply below_drew1 | refine below_set ?_ GE272.out) | exact HB.out)⟩
                  ·rw [if_neg c32] at H
                   have c32b0 : ((wrap64 ((y274.length : Int) + (y278.length : Int))) == 0) = false := beq_eq_false_iff_ne.mpr c32
                   have c32b1 : ((wrap64 ((y274.length : Int) + (y278.length : Int))) != 0) = true := bne_iff_ne.mpr c32
                   obtain ⟨y281, hy281⟩ : ∃ y_ : List (S66), y_ = (([(⟨x5_1, y274, y278⟩ : S66)] : List (S66))) := ⟨_, rfl⟩
                   replace H : (some y281) = some r := by first | (rw [hy281]; with_reducible exact H) | (have H2_ := (Option.bind_some _ _).symm.trans H; rw [hy281]; with_reducible exact H2_) | (have H2_ := (Option.bind_some _ _).symm.trans H; with_reducible exact H2_) | with_reducible exact H | (rw [hy281]; exact H) | exact H
                   have Ny281 := Aside0.mk hy281
                   clear hy281
                   obtain rfl := Option.some.inj H
                   try go_wp2_with (first | ((with_reducible refine gate_dst (N := 7) rfl ?_); (try (refine gate_guard (by rfl) ?_; dsimp only)); refine box_event ?hg (N := 7) ?hd (cs := #[.int .i64 0, .slice none 0 0, .slice none 0 0]) (t := 66) ?hr ?_; (case hd => rfl); (case hg => rfl); (case hr => first | (go_simp; done) | (go_simp; rfl)); intro gb272 hg w48 hbox hb; have n0_ := Aside0.mk (below_step (by repeat (first | (with_reducible first | exact HB.out | apply below_alloc | apply pw_below_drewN | apply below_drew1) | exact HB.out)) hb); have n1_ := Aside0.mk (hbox); have n2_ := Aside0.mk ((by rw [hg]; exact (below_size (by repeat (first | (with_reducible first | exact HB.out | apply below_alloc | apply pw_below_drewN | apply below_drew1) | exact HB.out))) : w.heap.size ≤ gb272)); have n3_ := Aside0.mk ((by rw [hg]; exact (below_size (by repeat (first | (with_reducible first | exact HB.out | apply below_alloc | apply pw_below_drewN | apply below_drew1) | exact HB.out))) : w.heap.size ≤ gb272)); clear HB; have HB := n0_; have BK272 := n1_; have GW272 := n2_; have GE272 := n3_; clear n0_ n1_ n2_ n3_; clear hb hbox hg; have hcz49_0 : w48.cell? ⟨gb272, 0, none⟩ = some (.int .i64 0) := (blk_cell BK272.out 0).trans rfl; have hcz49_1 : w48.cell? ⟨gb272, 1, none⟩ = some (.slice none 0 0) := (blk_cell BK272.out 1).trans rfl; have hcz49_2 : w48.cell? ⟨gb272, 2, none⟩ = some (.slice none 0 0) := (blk_cell BK272.out 2).trans rfl; have hfz49_0 := blk_frozen BK272.out 0; have hfz49_1 := blk_frozen BK272.out 1; have hfz49_2 := blk_frozen BK272.out 2))
                   have n0_ : Aside0 ((((w48.setCell ⟨gb272, 0, none⟩ (.int .i64 x5_1)).setCell ⟨gb272, 1, none⟩ (.slice none 0 0)).setCell ⟨gb272, 2, none⟩ (.slice none 0 0)).heap[gb272]? = some (.cells #[.int .i64 x5_1, .slice none 0 0, .slice none 0 0] 66 (0, 0))) := ⟨by (with_reducible repeat (first | refine blk_drewN ?_ _ | refine blk_drew ?_ | refine blk_alloc ?_ _)); refine blk_put (cs := #[.int .i64 x5_1, .slice none 0 0, .slice none 0 0]) ?_ 2 _ rfl; (with_reducible repeat (first | refine blk_drewN ?_ _ | refine blk_drew ?_ | refine blk_alloc ?_ _)); refine blk_put (cs := #[.int .i64 x5_1, .slice none 0 0, .slice none 0 0]) ?_ 1 _ rfl; (with_reducible repeat (first | refine blk_drewN ?_ _ | refine blk_drew ?_ | refine blk_alloc ?_ _)); refine blk_put (cs := #[.int .i64 0, .slice none 0 0, .slice none 0 0]) ?_ 0 _ rfl; (with_reducible repeat (first | refine blk_drewN ?_ _ | refine blk_drew ?_ | refine blk_alloc ?_ _)); exact BK272.out⟩
                   have n1_ : Aside0 (Below w.heap.size w (((w48.setCell ⟨gb272, 0, none⟩ (.int .i64 x5_1)).setCell ⟨gb272, 1, none⟩ (.slice none 0 0)).setCell ⟨gb272, 2, none⟩ (.slice none 0 0))) := ⟨by repeat (first | (with_reducible first | exact HB.out | apply below_alloc | apply pw_below_drewN | apply below_drew1 | refine below_set ?_ GE272.out) | exact HB.out)⟩
                   (try clear BK272)
                   (try clear HB)
                   generalize (((w48.setCell ⟨gb272, 0, none⟩ (.int .i64 x5_1)).setCell ⟨gb272, 1, none⟩ (.slice none 0 0)).setCell ⟨gb272, 2, none⟩ (.slice none 0 0)) = w50 at n0_ n1_ ⊢
                   have BK272 := n0_
                   have HB := n1_
                   clear n0_ n1_
                   have n0_ := Aside0.mk (blk_drew BK272.out)
                   have n1_ := Aside0.mk (below_drew1 HB.out)
                   clear BK272
                   clear HB
                   have BK272 := n0_
                   have HB := n1_
                   clear n0_ n1_
                   obtain ⟨i052, hi052, _, hsz52, _⟩ := info_parts info9
                   obtain ⟨A52, hcut52, hA52, hC52⟩ := print_mid_of (P := Try.prog) Value.string (⟨#[]⟩ : ByteArray) 22 9 .i64 .i64 Try.underlying22 hi052 hsz52 A0 c0 l0 x5_1 (wrap64 ((l0.length : Int) - x6_3)) (of_decide_eq_true (by first | (with_reducible assumption) | assumption)) (by first | omega | exact of_decide_eq_true (by first | (with_reducible assumption) | assumption)) (of_decide_eq_true (by first | (with_reducible assumption) | assumption)) HC0.out
                   have HR273 := Aside0.mk (Kd.C_of_reads (h1 := fun _ => rfl) (hA52 _ (Kd.reads_of_C HR0.out)))
                   have HC273 := Aside0.mk hC52
                   clear hA52 hC52 hi052 hsz52
                   refine start_ (n := 12) (S := fun w' => w'.cell? ⟨gb272, 0, none⟩ = some (.int .i64 x5_1) ∧ w'.cell? ⟨gb272, 1, none⟩ = some (.slice none 0 0) ∧ w'.cell? ⟨gb272, 2, none⟩ = some (.slice none 0 0)) (ds := [11]) #[false, false, false, false, false, false, false, false, false, false, false, false] (by kernel_rfl) rfl rfl ⟨(blk_cell BK272.out 0).trans rfl, (blk_cell BK272.out 1).trans rfl, (blk_cell BK272.out 2).trans rfl⟩ (fun hHeld => ?_); refine with_tabW rafterref04_whole.tab8 rafterref04_whole.bits8 (fun HT_ HW_ => ?_)
                   generalize w50.drew = w51 at BK272 HB HR273 hHeld ⊢
                   refine pq_ 0 (some 68) HT_ ?_; refine pq_ 2 (some 70) HT_ ?_; refine pq_ 3 (some 71) HT_ ?_; refine pq_ 4 (some 72) HT_ ?_; refine pq_ 5 (some 73) HT_ ?_; refine pq_ 6 (some 74) HT_ ?_; refine pq_ 7 (some 75) HT_ ?_; refine pq_ 8 (some 76) HT_ ?_; refine tq_ 1 (some 69) HT_ HW_ hHeld ?_
                   refine one_ (i := 9) (N := some 77) #[true, true, true, true, true, true, true, true, true, true, false, false] rfl rfl (one_of HT_.out (by kernel_rfl)) (by decide) (fun K hK => ?_)
                   refine Kd.R_append_rows_step Kd.string (w0 := w) w.heap.size (by rfl) (.tmp 69) (.tmp 76) 22 9 (.string ⟨#[]⟩) 16 rfl Try.underlying22 info9 rfl (by decide) (by omega) (.slice none 0 0) ([] : List ByteArray) ((l0.take ((wrap64 ((l0.length : Int) - x6_3)) : Int).toNat).drop (x5_1 : Int).toNat) _ _ _ (fun k_ => (w.heap.size ≤ k_)) (fun _ => False) rfl rfl ?aO ?aR (fun _ _ h => h) (fun _ h => h.elim) ?aF ?aB ?aS ?aL ?_
                   (case aR => first | (rw [← show ((l0.take ((wrap64 ((l0.length : Int) - x6_3)) : Int).toNat).drop (x5_1 : Int).toNat).length = ((wrap64 ((l0.length : Int) - x6_3)).toNat - x5_1.toNat) from (by rw [List.length_drop, List.length_take]; have h_ : ((wrap64 ((l0.length : Int) - x6_3)) : Int) ≤ (l0.length : Int) := of_decide_eq_true (by first | (with_reducible assumption) | assumption); omega)]; repeat (first | exact (Kd.C_below HR273.out HB.out) | (with_reducible refine Kd.C_alloc ?_ _) | (with_reducible refine Kd.C_drewN ?_ _) | (with_reducible refine Kd.C_drew ?_))) | (repeat (first | exact (Kd.C_below HR273.out HB.out) | (with_reducible refine Kd.C_alloc ?_ _) | (with_reducible refine Kd.C_drewN ?_ _) | (with_reducible refine Kd.C_drew ?_))))
                   (case aB => exact (by repeat (first | (with_reducible first | exact HB.out | apply below_alloc | apply pw_below_drewN | apply below_drew1 | refine below_set ?_ GE272.out) | exact HB.out)))
                   (case aF => exact (fun k_ hk => (Nat.le_trans (below_size (by repeat (first | (with_reducible first | exact HB.out | apply below_alloc | apply pw_below_drewN | apply below_drew1 | refine below_set ?_ GE272.out) | exact HB.out))) hk)))
                   (case aO => exact ((Kd.R_nil _ _ _ _ (fun k_ => (w.heap.size ≤ k_)))))
                   (case aS => exact (below_size (by repeat (first | (with_reducible first | exact HB.out | apply below_alloc | apply pw_below_drewN | apply below_drew1 | refine below_set ?_ GE272.out) | exact HB.out))))
                   (case aL => have := LMc27.out; have hlx_ := (show ((l0.take ((wrap64 ((l0.length : Int) - x6_3)) : Int).toNat).drop (x5_1 : Int).toNat).length = ((wrap64 ((l0.length : Int) - x6_3)).toNat - x5_1.toNat) from (by rw [List.length_drop, List.length_take]; have h_ : ((wrap64 ((l0.length : Int) - x6_3)) : Int) ≤ (l0.length : Int) := of_decide_eq_true (by first | (with_reducible assumption) | assumption); omega)); omega)
                   intro v275 w53 ho hb hg hat
                   rw [← Ny274.out] at ho
                   have n0_ := Aside0.mk (blk_grown (g := gb272) (o := .cells #[.int .i64 x5_1, .slice none 0 0, .slice none 0 0] 66 (0, 0)) (by (with_reducible repeat (first | refine blk_drewN ?_ _ | refine blk_drew ?_ | refine blk_alloc ?_ _)); exact BK272.out) hg (by simp [Value.ownBlock]))
                   have n1_ := Aside0.mk (hb)
                   have n2_ := Aside0.mk (ho)
                   clear BK272
                   clear HB
                   have BK272 := n0_
                   have HB := n1_
                   have HO276 := n2_
                   clear n0_ n1_ n2_
                   clear ho hb hg hat
                   obtain ⟨Ao54, co54, eo54⟩ := Kd.R_slice HO276.out
                   (first | subst eo54 | (injection eo54 with f1_ f2_ f3_; have f4_ := f1_.symm; have f5_ := f3_.symm; clear f1_ f2_ f3_; subst f4_; subst f5_))
                   refine hK.out _ _ ⟨(blk_cell BK272.out 0).trans rfl, (blk_cell BK272.out 1).trans rfl, (blk_cell BK272.out 2).trans rfl⟩ (fun hHeld => ?_)
                   clear hK K
                   refine norm_ (a' := ?_) ?_ ?_
                   rotate_left
                   ·show Act.put _ (some 77) _ = _
                    simp only [Act.put, List.setIfInBounds_toArray, List.set_cons_zero, List.set_cons_succ, i64_w, i32_w]
                    rfl
                   refine pq_ 10 (some 78) HT_ ?_
                   refine last_ (i := 11) (N := none) #[true, true, true, true, true, true, true, true, true, true, true, true] rfl rfl (one_of HT_.out (by kernel_rfl)) (by decide) (fun K hK => ?_)
                   have hs55 : w53.cell? ⟨gb272, 1, none⟩ = some (.slice none 0 0) := (blk_cell BK272.out 1).trans rfl
                   have hfs55 := blk_frozen BK272.out 1
                   refine skip_ (w1 := ?_) (by rfl) rfl ?_ ?_
                   rotate_left
                   ·go_simp
                    rfl
                   refine hK.out _ _ ?_
                   clear hK K
                   refine done_ (done_of HT_.out (by kernel_rfl)) ?_
                   try go_wp2
                   have n0_ : Aside0 (Kd.R Kd.string 9 (w53.setCell ⟨gb272, 1, none⟩ (.slice Ao54 y274.length co54)) w.heap.size (fun k_ => (w.heap.size ≤ k_)) (.slice Ao54 y274.length co54) y274) := ⟨by (with_reducible repeat (first | apply Kd.R_alloc | apply Kd.R_drewN | apply Kd.R_drew)); exact Kd.R_mono (Kd.R_far (p := ⟨gb272, 1, none⟩) (Kd.R_types HO276.out BK272.out (by decide)) (fun _ hk => hk.2) (.slice Ao54 y274.length co54)) (fun _ hk => hk.1)⟩
                   have n1_ : Aside0 ((w53.setCell ⟨gb272, 1, none⟩ (.slice Ao54 y274.length co54)).heap[gb272]? = some (.cells #[.int .i64 x5_1, .slice Ao54 y274.length co54, .slice none 0 0] 66 (0, 0))) := ⟨by (with_reducible repeat (first | refine blk_drewN ?_ _ | refine blk_drew ?_ | refine blk_alloc ?_ _)); refine blk_put (cs := #[.int .i64 x5_1, .slice none 0 0, .slice none 0 0]) ?_ 1 _ rfl; (with_reducible repeat (first | refine blk_drewN ?_ _ | refine blk_drew ?_ | refine blk_alloc ?_ _)); exact BK272.out⟩
                   have n2_ : Aside0 (Below w.heap.size w (w53.setCell ⟨gb272, 1, none⟩ (.slice Ao54 y274.length co54))) := ⟨by repeat (first | (with_reducible first | exact HB.out | apply below_alloc | apply pw_below_drewN | apply below_drew1 | refine below_set ?_ GE272.out) | exact HB.out)⟩
                   (try clear HO276)
                   (try clear BK272)
                   (try clear HB)
                   generalize (w53.setCell ⟨gb272, 1, none⟩ (.slice Ao54 y274.length co54)) = w56 at n0_ n1_ n2_ ⊢
                   have HO276 := n0_
                   have BK272 := n1_
                   have HB := n2_
                   clear n0_ n1_ n2_
                   have n0_ := Aside0.mk (Kd.R_drew HO276.out)
                   have n1_ := Aside0.mk (blk_drew BK272.out)
                   have n2_ := Aside0.mk (below_drew1 HB.out)
                   clear HO276
                   clear BK272
                   clear HB
                   have HO276 := n0_
                   have BK272 := n1_
                   have HB := n2_
                   clear n0_ n1_ n2_
                   obtain ⟨i058, hi058, _, hsz58, _⟩ := info_parts info9
                   obtain ⟨A58, hcut58, hA58, hC58⟩ := print_mid_of (P := Try.prog) Value.string (⟨#[]⟩ : ByteArray) 22 9 .i64 .i64 Try.underlying22 hi058 hsz58 A1 c1 l1 x5_1 (wrap64 ((l1.length : Int) - x6_3)) (of_decide_eq_true (by first | (with_reducible assumption) | assumption)) (by first | omega | exact of_decide_eq_true (by first | (with_reducible assumption) | assumption)) (of_decide_eq_true (by first | (with_reducible assumption) | assumption)) HC1.out
                   have HR277 := Aside0.mk (Kd.C_of_reads (h1 := fun _ => rfl) (hA58 _ (Kd.reads_of_C HR1.out)))
                   have HC277 := Aside0.mk hC58
                   clear hA58 hC58 hi058 hsz58
                   refine start_ (n := 12) (S := fun w' => w'.cell? ⟨gb272, 0, none⟩ = some (.int .i64 x5_1) ∧ w'.cell? ⟨gb272, 1, none⟩ = some (.slice Ao54 y274.length co54) ∧ w'.cell? ⟨gb272, 2, none⟩ = some (.slice none 0 0)) (ds := [11]) #[false, false, false, false, false, false, false, false, false, false, false, false] (by kernel_rfl) rfl rfl ⟨(blk_cell BK272.out 0).trans rfl, (blk_cell BK272.out 1).trans rfl, (blk_cell BK272.out 2).trans rfl⟩ (fun hHeld => ?_); refine with_tabW rafterref04_whole.tab9 rafterref04_whole.bits9 (fun HT_ HW_ => ?_)
                   generalize w56.drew = w57 at HO276 BK272 HB HR277 hHeld ⊢
                   refine pq_ 0 (some 79) HT_ ?_; refine pq_ 2 (some 81) HT_ ?_; refine pq_ 3 (some 82) HT_ ?_; refine pq_ 4 (some 83) HT_ ?_; refine pq_ 5 (some 84) HT_ ?_; refine pq_ 6 (some 85) HT_ ?_; refine pq_ 7 (some 86) HT_ ?_; refine pq_ 8 (some 87) HT_ ?_; refine tq_ 1 (some 80) HT_ HW_ hHeld ?_
                   refine one_ (i := 9) (N := some 88) #[true, true, true, true, true, true, true, true, true, true, false, false] rfl rfl (one_of HT_.out (by kernel_rfl)) (by decide) (fun K hK => ?_)
                   refine Kd.R_append_rows_step Kd.string (w0 := w) w.heap.size (by rfl) (.tmp 80) (.tmp 87) 22 9 (.string ⟨#[]⟩) 16 rfl Try.underlying22 info9 rfl (by decide) (by omega) (.slice none 0 0) ([] : List ByteArray) ((l1.take ((wrap64 ((l1.length : Int) - x6_3)) : Int).toNat).drop (x5_1 : Int).toNat) _ _ _ (fun k_ => (w.heap.size ≤ k_) ∧ some k_ ≠ (.slice Ao54 y274.length co54 : Value).ownBlock) (fun _ => False) rfl rfl ?aO ?aR (fun _ _ h => h) (fun _ h => h.elim) ?aF ?aB ?aS ?aL ?_
                   (case aR => first | (rw [← show ((l1.take ((wrap64 ((l1.length : Int) - x6_3)) : Int).toNat).drop (x5_1 : Int).toNat).length = ((wrap64 ((l1.length : Int) - x6_3)).toNat - x5_1.toNat) from (by rw [List.length_drop, List.length_take]; have h_ : ((wrap64 ((l1.length : Int) - x6_3)) : Int) ≤ (l1.length : Int) := of_decide_eq_true (by first | (with_reducible assumption) | assumption); omega)]; repeat (first | exact (Kd.C_below HR277.out HB.out) | (with_reducible refine Kd.C_alloc ?_ _) | (with_reducible refine Kd.C_drewN ?_ _) | (with_reducible refine Kd.C_drew ?_))) | (repeat (first | exact (Kd.C_below HR277.out HB.out) | (with_reducible refine Kd.C_alloc ?_ _) | (with_reducible refine Kd.C_drewN ?_ _) | (with_reducible refine Kd.C_drew ?_))))
                   (case aB => exact (by repeat (first | (with_reducible first | exact HB.out | apply below_alloc | apply pw_below_drewN | apply below_drew1 | refine below_set ?_ GE272.out) | exact HB.out)))
                   (case aF => exact (fun k_ hk => ⟨(Nat.le_trans (below_size (by repeat (first | (with_reducible first | exact HB.out | apply below_alloc | apply pw_below_drewN | apply below_drew1 | refine below_set ?_ GE272.out) | exact HB.out))) hk), Kd.fresh' (Kd.R_lt (by (with_reducible repeat (first | apply Kd.R_alloc | apply Kd.R_drewN | apply Kd.R_drew)); exact HO276.out)) k_ hk⟩))
                   (case aO => exact ((Kd.R_nil _ _ _ _ (fun k_ => (w.heap.size ≤ k_) ∧ some k_ ≠ (.slice Ao54 y274.length co54 : Value).ownBlock))))
                   (case aS => exact (below_size (by repeat (first | (with_reducible first | exact HB.out | apply below_alloc | apply pw_below_drewN | apply below_drew1 | refine below_set ?_ GE272.out) | exact HB.out))))
                   (case aL => have := LMc31.out; have hlx_ := (show ((l1.take ((wrap64 ((l1.length : Int) - x6_3)) : Int).toNat).drop (x5_1 : Int).toNat).length = ((wrap64 ((l1.length : Int) - x6_3)).toNat - x5_1.toNat) from (by rw [List.length_drop, List.length_take]; have h_ : ((wrap64 ((l1.length : Int) - x6_3)) : Int) ≤ (l1.length : Int) := of_decide_eq_true (by first | (with_reducible assumption) | assumption); omega)); omega)
                   intro v279 w59 ho hb hg hat
                   rw [← Ny278.out] at ho
                   have n0_ := Aside0.mk (blk_grown (g := gb272) (o := .cells #[.int .i64 x5_1, .slice Ao54 y274.length co54, .slice none 0 0] 66 (0, 0)) (by (with_reducible repeat (first | refine blk_drewN ?_ _ | refine blk_drew ?_ | refine blk_alloc ?_ _)); exact BK272.out) hg (by simp [Value.ownBlock]))
                   have n1_ := Aside0.mk (Kd.R_after (Kd.R_apart_nil (by (with_reducible repeat (first | apply Kd.R_alloc | apply Kd.R_drewN | apply Kd.R_drew)); exact HO276.out)) hg hat)
                   have n2_ := Aside0.mk (hb)
                   have n3_ := Aside0.mk (ho)
                   clear BK272
                   clear HO276
                   clear HB
                   have BK272 := n0_
                   have HO276 := n1_
                   have HB := n2_
                   have HO280 := n3_
                   clear n0_ n1_ n2_ n3_
                   clear ho hb hg hat
                   obtain ⟨Ao60, co60, eo60⟩ := Kd.R_slice HO280.out
                   (first | subst eo60 | (injection eo60 with f1_ f2_ f3_; have f4_ := f1_.symm; have f5_ := f3_.symm; clear f1_ f2_ f3_; subst f4_; subst f5_))
                   refine hK.out _ _ ⟨(blk_cell BK272.out 0).trans rfl, (blk_cell BK272.out 1).trans rfl, (blk_cell BK272.out 2).trans rfl⟩ (fun hHeld => ?_)
                   clear hK K
                   refine norm_ (a' := ?_) ?_ ?_
                   rotate_left
                   ·show Act.put _ (some 88) _ = _
                    simp only [Act.put, List.setIfInBounds_toArray, List.set_cons_zero, List.set_cons_succ, i64_w, i32_w]
                    rfl
                   refine pq_ 10 (some 89) HT_ ?_
                   refine last_ (i := 11) (N := none) #[true, true, true, true, true, true, true, true, true, true, true, true] rfl rfl (one_of HT_.out (by kernel_rfl)) (by decide) (fun K hK => ?_)
                   have hs61 : w59.cell? ⟨gb272, 2, none⟩ = some (.slice none 0 0) := (blk_cell BK272.out 2).trans rfl
                   have hfs61 := blk_frozen BK272.out 2
                   refine skip_ (w1 := ?_) (by rfl) rfl ?_ ?_
                   rotate_left
                   ·go_simp
                    rfl
                   refine hK.out _ _ ?_
                   clear hK K
                   refine done_ (done_of HT_.out (by kernel_rfl)) ?_
                   have n0_ : Aside0 (Kd.R Kd.string 9 (w59.setCell ⟨gb272, 2, none⟩ (.slice Ao60 y278.length co60)) w.heap.size (fun k_ => (w.heap.size ≤ k_) ∧ some k_ ≠ (.slice Ao60 y278.length co60 : Value).ownBlock) (.slice Ao54 y274.length co54) y274) := ⟨by (with_reducible repeat (first | apply Kd.R_alloc | apply Kd.R_drewN | apply Kd.R_drew)); exact Kd.R_mono (Kd.R_far (p := ⟨gb272, 2, none⟩) (Kd.R_types HO276.out BK272.out (by decide)) (fun _ hk => hk.2) (.slice Ao60 y278.length co60)) (fun _ hk => ⟨hk.1.1, hk.1.2⟩)⟩
                   have n1_ : Aside0 (Kd.R Kd.string 9 (w59.setCell ⟨gb272, 2, none⟩ (.slice Ao60 y278.length co60)) w.heap.size (fun k_ => (w.heap.size ≤ k_) ∧ some k_ ≠ (.slice Ao54 y274.length co54 : Value).ownBlock) (.slice Ao60 y278.length co60) y278) := ⟨by (with_reducible repeat (first | apply Kd.R_alloc | apply Kd.R_drewN | apply Kd.R_drew)); exact Kd.R_mono (Kd.R_far (p := ⟨gb272, 2, none⟩) (Kd.R_types HO280.out BK272.out (by decide)) (fun _ hk => hk.2) (.slice Ao60 y278.length co60)) (fun _ hk => ⟨hk.1.1, hk.1.2⟩)⟩
                   have n2_ : Aside0 ((w59.setCell ⟨gb272, 2, none⟩ (.slice Ao60 y278.length co60)).heap[gb272]? = some (.cells #[.int .i64 x5_1, .slice Ao54 y274.length co54, .slice Ao60 y278.length co60] 66 (0, 0))) := ⟨by (with_reducible repeat (first | refine blk_drewN ?_ _ | refine blk_drew ?_ | refine blk_alloc ?_ _)); refine blk_put (cs := #[.int .i64 x5_1, .slice Ao54 y274.length co54, .slice none 0 0]) ?_ 2 _ rfl; (with_reducible repeat (first | refine blk_drewN ?_ _ | refine blk_drew ?_ | refine blk_alloc ?_ _)); exact BK272.out⟩
                   have n3_ : Aside0 (Below w.heap.size w (w59.setCell ⟨gb272, 2, none⟩ (.slice Ao60 y278.length co60))) := ⟨by repeat (first | (with_reducible first | exact HB.out | apply below_alloc | apply pw_below_drewN | apply below_drew1 | refine below_set ?_ GE272.out) | exact HB.out)⟩
                   (try clear HO276)
                   (try clear HO280)
                   (try clear BK272)
                   (try clear HB)
                   generalize (w59.setCell ⟨gb272, 2, none⟩ (.slice Ao60 y278.length co60)) = w62 at n0_ n1_ n2_ n3_ ⊢
                   have HO276 := n0_
                   have HO280 := n1_
                   have BK272 := n2_
                   have HB := n3_
                   clear n0_ n1_ n2_ n3_
                   have hcz63_0 : w62.cell? ⟨gb272, 0, none⟩ = some (.int .i64 x5_1) := (blk_cell BK272.out 0).trans rfl
                   have hcz63_1 : w62.cell? ⟨gb272, 1, none⟩ = some (.slice Ao54 y274.length co54) := (blk_cell BK272.out 1).trans rfl
                   have hcz63_2 : w62.cell? ⟨gb272, 2, none⟩ = some (.slice Ao60 y278.length co60) := (blk_cell BK272.out 2).trans rfl
                   have hfz63_0 := blk_frozen BK272.out 0
                   have hfz63_1 := blk_frozen BK272.out 1
                   have hfz63_2 := blk_frozen BK272.out 2
                   try go_wp2_with (first | ((with_reducible refine gate_dst (N := 99) rfl ?_); (try (refine gate_guard (by rfl) ?_; dsimp only)); refine Kd.N_lit k66 _ 66 ?hg (N' := 99) ?hd (xs := ([(⟨x5_1, y274, y278⟩ : S66)] : List (S66))) (inner := [.int .i64 x5_1, .slice Ao54 y274.length co54, .slice Ao60 y278.length co60]) (ok := (fun k_ => (w.heap.size ≤ k_) ∧ k_ ≠ gb272)) (okp := (fun k_ => (w.heap.size ≤ k_) ∧ k_ ≠ gb272)) ?hr ?hp (fun _ hk => hk) ((show ∀ k_, w62.heap.size ≤ k_ → (fun k_ => (w.heap.size ≤ k_) ∧ k_ ≠ gb272) k_ from fun k_ hk => ⟨(Nat.le_trans (below_size (by repeat (first | (with_reducible first | exact HB.out | apply below_alloc | apply pw_below_drewN | apply below_drew1 | refine below_set ?_ GE272.out) | exact HB.out))) hk), Kd.freshB (g := gb272) (o := .cells #[.int .i64 x5_1, .slice Ao54 y274.length co54, .slice Ao60 y278.length co60] 66 (0, 0)) (by (with_reducible repeat (first | refine blk_drewN ?_ _ | refine blk_drew ?_ | refine blk_alloc ?_ _)); exact BK272.out) k_ hk⟩) _ (Nat.le_refl _)) (Below.refl _ _) (Nat.le_refl _) (by simp) ?_; (case hd => rfl); (case hg => rfl); (case hr => first | (go_simp; done) | (go_simp; rfl)); (case hp => exact (Reps.c3 (show Kd.FK k66 _ _ (⟨x5_1, y274, y278⟩ : S66) [.int .i64 x5_1, .slice Ao54 y274.length co54, .slice Ao60 y278.length co60] from (k66_mkF _ _ (⟨x5_1, y274, y278⟩ : S66) (Kd.R_reads' (Kd.R_mono (ok' := (fun k_ => (w.heap.size ≤ k_) ∧ k_ ≠ gb272)) (Kd.R_types (HO276.out) BK272.out (by decide)) (fun k_ hk => ⟨hk.1.1, hk.2⟩))).2.1 (Kd.R_F (Kd.R_mono (ok' := (fun k_ => (w.heap.size ≤ k_) ∧ k_ ≠ gb272)) (Kd.R_types (HO276.out) BK272.out (by decide)) (fun k_ hk => ⟨hk.1.1, hk.2⟩))) (Kd.R_reads' (Kd.R_mono (ok' := (fun k_ => (w.heap.size ≤ k_) ∧ k_ ≠ gb272)) (Kd.R_types (HO280.out) BK272.out (by decide)) (fun k_ hk => ⟨hk.1.1, hk.2⟩))).2.1 (Kd.R_F (Kd.R_mono (ok' := (fun k_ => (w.heap.size ≤ k_) ∧ k_ ≠ gb272)) (Kd.R_types (HO280.out) BK272.out (by decide)) (fun k_ hk => ⟨hk.1.1, hk.2⟩))))) (Reps.none _ _))); intro v282 w64 ho65 hb hg_ hnew_; clear hg_ hnew_; (first | rw [← Ny281.out] at ho65 | (simp only [Int.reduceToNat] at ho65; rw [← Ny281.out] at ho65)); have n0_ := Aside0.mk (Kd.N_lower ho65 (below_size (by repeat (first | (with_reducible first | exact HB.out | apply below_alloc | apply pw_below_drewN | apply below_drew1 | refine below_set ?_ GE272.out) | exact HB.out)))); have n1_ := Aside0.mk (blk_below (g := gb272) (o := .cells #[.int .i64 x5_1, .slice Ao54 y274.length co54, .slice Ao60 y278.length co60] 66 (0, 0)) (by (with_reducible repeat (first | refine blk_drewN ?_ _ | refine blk_drew ?_ | refine blk_alloc ?_ _)); exact BK272.out) hb); have n2_ := Aside0.mk (below_step (by repeat (first | (with_reducible first | exact HB.out | apply below_alloc | apply pw_below_drewN | apply below_drew1 | refine below_set ?_ GE272.out) | exact HB.out)) hb); clear BK272; clear HB; clear HO276; clear HO280; have HO283 := n0_; have BK272 := n1_; have HB := n2_; clear n0_ n1_ n2_; clear hb ho65))
                   go_ret
                   exact ⟨_, by first | rfl | (simp [errW_none, errW_some] <;> rfl) | (simp [*, errW_none, errW_some] <;> rfl), by (with_reducible repeat (first | apply Kd.N_alloc | apply Kd.N_drewN | apply Kd.N_drew)); exact Kd.N_mono HO283.out (fun _ hk => hk.1), by repeat (first | (with_reducible first | exact HB.out | apply below_alloc | apply pw_below_drewN | apply below_drew1 | refine below_set ?_ GE272.out) | exact HB.out)⟩
                 ·rw [if_neg c31] at H
                  exact absurd H (by simp)
                ·rw [if_neg c30] at H
                 exact absurd H (by simp)
               ·rw [if_neg c29] at H
                exact absurd H (by simp)
              ·rw [if_neg c27] at H
               exact absurd H (by simp)
             ·rw [if_neg c26] at H
              exact absurd H (by simp)
            ·rw [if_neg c25] at H
             exact absurd H (by simp)
           ·rw [if_neg c24] at H
            exact absurd H (by simp)

end Go.Proofs.Ytnegeacpfkcecaa.XDiff
