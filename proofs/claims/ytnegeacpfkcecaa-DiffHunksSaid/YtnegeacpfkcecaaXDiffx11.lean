/- Printed by px.py, a program of this session over the print of the kit: functions that the law reaches, as Lean functions, each with a proof that its Go code answers so. No condition. -/
import Derived.Test.YtnegeacpfkcecaaXDiffx0
import Derived.Test.YtnegeacpfkcecaaXDiffx8
import Derived.Test.YtnegeacpfkcecaaXDiffx10
import Derived.Test.YtnegeacpfkcecaaEStep
namespace Go.Proofs.Ytnegeacpfkcecaa.XDiff
open Go.RowKit Go.Proofs.YtnegeacpfkcecaaW.PrintWords Go.Proofs.YtnegeacpfkcecaaW.PrintLast Go.Proofs.YtnegeacpfkcecaaW.PrintMore Go.Proofs.Ytnegeacpfkcecaa.EStep
attribute [local go_sem] max2_int min2_int max_two min_two max_three min_three max_four min_four   -- for this text's walks alone
set_option linter.unusedVariables false
set_option linter.unusedSimpArgs false

/-! ### rafterref04_Hunks: function 19 -/
mutual
def rafterref04_Hunks.j0 : Nat → List ByteArray → List ByteArray → Bool → Option ((List (S66)))
 | 0, _, _, _ => none
 | k + 1, x0, x1, x18 => if x18 = true then ((rafterref04_whole.f k x0 x1).bind fun t284 => (some t284)) else ((rafterref04_Alike.f k x0 x1).bind fun t287 => (rafterref04_Hunks.l0 k x0 x1 t287 ([] : List (S66)) 0 0 0 ([] : List ByteArray) ([] : List ByteArray)))
def rafterref04_Hunks.l0 : Nat → List ByteArray → List ByteArray → List (List Int) → List (S66) → Int → Int → Int → List ByteArray → List ByteArray → Option ((List (S66)))
 | 0, _, _, _, _, _, _, _, _, _ => none
 | k + 1, x0, x1, x5, x6, x8, x9, x291000, x291001, x291002 => if x8 < (x0.length : Int) then (rafterref04_Hunks.j2 k x0 x1 x5 x6 x8 x9 true x291000 x291001 x291002) else (rafterref04_Hunks.j2 k x0 x1 x5 x6 x8 x9 (decide (x9 < (x1.length : Int))) x291000 x291001 x291002)
def rafterref04_Hunks.j2 : Nat → List ByteArray → List ByteArray → List (List Int) → List (S66) → Int → Int → Bool → Int → List ByteArray → List ByteArray → Option ((List (S66)))
 | 0, _, _, _, _, _, _, _, _, _, _ => none
 | k + 1, x0, x1, x5, x6, x8, x9, x35, x291000, x291001, x291002 => if x35 = true then (if x8 < (x0.length : Int) then (if x9 < (x1.length : Int) then (if 0 ≤ x8 then (if 0 ≤ x9 then (rafterref04_Hunks.j3 k x0 x1 x5 x6 x8 x9 ((rdOf ByteArray.empty x0 x8).toList == (rdOf ByteArray.empty x1 x9).toList) x291000 x291001 x291002) else (none)) else (none)) else (rafterref04_Hunks.j3 k x0 x1 x5 x6 x8 x9 false x291000 x291001 x291002)) else (rafterref04_Hunks.j3 k x0 x1 x5 x6 x8 x9 false x291000 x291001 x291002)) else (if (wrap64 ((x291001.length : Int) + (x291002.length : Int))) > 0 then (if x6.length < 2513169434916 then (some (x6 ++ [(⟨x291000, x291001, x291002⟩ : S66)])) else (none)) else (some x6))
def rafterref04_Hunks.j3 : Nat → List ByteArray → List ByteArray → List (List Int) → List (S66) → Int → Int → Bool → Int → List ByteArray → List ByteArray → Option ((List (S66)))
 | 0, _, _, _, _, _, _, _, _, _, _ => none
 | k + 1, x0, x1, x5, x6, x8, x9, x56, x291000, x291001, x291002 => if x56 = true then (if (wrap64 ((x291001.length : Int) + (x291002.length : Int))) > 0 then (if x6.length < 2513169434916 then (rafterref04_Hunks.l0 k x0 x1 x5 (x6 ++ [(⟨x291000, x291001, x291002⟩ : S66)]) (wrap64 (x8 + 1)) (wrap64 (x9 + 1)) (wrap64 (x8 + 1)) ([] : List ByteArray) ([] : List ByteArray)) else (none)) else (rafterref04_Hunks.l0 k x0 x1 x5 x6 (wrap64 (x8 + 1)) (wrap64 (x9 + 1)) (wrap64 (x8 + 1)) ([] : List ByteArray) ([] : List ByteArray))) else (if x9 = (x1.length : Int) then (rafterref04_Hunks.j4 k x0 x1 x5 x6 x8 x9 true x291000 x291001 x291002) else (if x8 < (x0.length : Int) then (if 0 ≤ (wrap64 ((wrap64 ((x0.length : Int) - x8)) - 1)) then (if (wrap64 ((wrap64 ((x0.length : Int) - x8)) - 1)) < (x5.length : Int) then (if 0 ≤ x9 then (if x9 < ((rd_L4 x5 (wrap64 ((wrap64 ((x0.length : Int) - x8)) - 1))).length : Int) then (if 0 ≤ (wrap64 ((x0.length : Int) - x8)) then (if (wrap64 ((x0.length : Int) - x8)) < (x5.length : Int) then (if 0 ≤ (wrap64 (x9 + 1)) then (if (wrap64 (x9 + 1)) < ((rd_L4 x5 (wrap64 ((x0.length : Int) - x8))).length : Int) then (rafterref04_Hunks.j4 k x0 x1 x5 x6 x8 x9 (decide ((rd (rd_L4 x5 (wrap64 ((wrap64 ((x0.length : Int) - x8)) - 1))) x9) ≥ (rd (rd_L4 x5 (wrap64 ((x0.length : Int) - x8))) (wrap64 (x9 + 1))))) x291000 x291001 x291002) else (none)) else (none)) else (none)) else (none)) else (none)) else (none)) else (none)) else (none)) else (rafterref04_Hunks.j4 k x0 x1 x5 x6 x8 x9 false x291000 x291001 x291002)))
def rafterref04_Hunks.j4 : Nat → List ByteArray → List ByteArray → List (List Int) → List (S66) → Int → Int → Bool → Int → List ByteArray → List ByteArray → Option ((List (S66)))
 | 0, _, _, _, _, _, _, _, _, _, _ => none
 | k + 1, x0, x1, x5, x6, x8, x9, x10, x291000, x291001, x291002 => if x10 = true then (if 0 ≤ x8 then (if x8 < (x0.length : Int) then (if x291001.length < 8796093022208 then (rafterref04_Hunks.l0 k x0 x1 x5 x6 (wrap64 (x8 + 1)) x9 x291000 (x291001 ++ [rdOf ByteArray.empty x0 x8]) x291002) else (none)) else (none)) else (none)) else (if 0 ≤ x9 then (if x9 < (x1.length : Int) then (if x291002.length < 8796093022208 then (rafterref04_Hunks.l0 k x0 x1 x5 x6 x8 (wrap64 (x9 + 1)) x291000 x291001 (x291002 ++ [rdOf ByteArray.empty x1 x9])) else (none)) else (none)) else (none))
end
def rafterref04_Hunks.f (k : Nat) (l0 : List ByteArray) (l1 : List ByteArray) : Option ((List (S66))) := if (l0.length : Int) > 400 then (rafterref04_Hunks.j0 k l0 l1 true) else (rafterref04_Hunks.j0 k l0 l1 (decide ((l1.length : Int) > 400)))
theorem rafterref04_Hunks.mono_l : ∀ k, (∀ y0 y1 y2, LeO (rafterref04_Hunks.j0 k y0 y1 y2) (rafterref04_Hunks.j0 (k + 1) y0 y1 y2)) ∧ (∀ y0 y1 y2 y3 y4 y5 y6 y7 y8, LeO (rafterref04_Hunks.l0 k y0 y1 y2 y3 y4 y5 y6 y7 y8) (rafterref04_Hunks.l0 (k + 1) y0 y1 y2 y3 y4 y5 y6 y7 y8)) ∧ (∀ y0 y1 y2 y3 y4 y5 y6 y7 y8 y9, LeO (rafterref04_Hunks.j2 k y0 y1 y2 y3 y4 y5 y6 y7 y8 y9) (rafterref04_Hunks.j2 (k + 1) y0 y1 y2 y3 y4 y5 y6 y7 y8 y9)) ∧ (∀ y0 y1 y2 y3 y4 y5 y6 y7 y8 y9, LeO (rafterref04_Hunks.j3 k y0 y1 y2 y3 y4 y5 y6 y7 y8 y9) (rafterref04_Hunks.j3 (k + 1) y0 y1 y2 y3 y4 y5 y6 y7 y8 y9)) ∧ (∀ y0 y1 y2 y3 y4 y5 y6 y7 y8 y9, LeO (rafterref04_Hunks.j4 k y0 y1 y2 y3 y4 y5 y6 y7 y8 y9) (rafterref04_Hunks.j4 (k + 1) y0 y1 y2 y3 y4 y5 y6 y7 y8 y9))
 | 0 => ⟨fun _ _ _ r h => by simp [rafterref04_Hunks.j0] at h, fun _ _ _ _ _ _ _ _ _ r h => by simp [rafterref04_Hunks.l0] at h, fun _ _ _ _ _ _ _ _ _ _ r h => by simp [rafterref04_Hunks.j2] at h, fun _ _ _ _ _ _ _ _ _ _ r h => by simp [rafterref04_Hunks.j3] at h, fun _ _ _ _ _ _ _ _ _ _ r h => by simp [rafterref04_Hunks.j4] at h⟩
 | k + 1 => by
  obtain ⟨ih0, ih1, ih2, ih3, ih4⟩ := rafterref04_Hunks.mono_l k
  refine ⟨?_, ?_, ?_, ?_, ?_⟩
  ·intro y0 y1 y2
   unfold rafterref04_Hunks.j0
   repeat' first
   | (with_reducible exact ih0 _ _ _)
   | (with_reducible exact ih1 _ _ _ _ _ _ _ _ _)
   | (with_reducible exact ih2 _ _ _ _ _ _ _ _ _ _)
   | (with_reducible exact ih3 _ _ _ _ _ _ _ _ _ _)
   | (with_reducible exact ih4 _ _ _ _ _ _ _ _ _ _)
   | (with_reducible exact rafterref04_Alike.mono _ _ _)
   | (with_reducible exact rafterref04_whole.mono _ _ _)
   | (with_reducible exact LeO.refl _)
   | (with_reducible exact LeO.none _)
   | (with_reducible refine LeO.ite ?_ ?_)
   | (with_reducible refine LeO.bind ?_ (fun _ => ?_))
   | exact ih0 _ _ _
   | exact ih1 _ _ _ _ _ _ _ _ _
   | exact ih2 _ _ _ _ _ _ _ _ _ _
   | exact ih3 _ _ _ _ _ _ _ _ _ _
   | exact ih4 _ _ _ _ _ _ _ _ _ _
   | exact rafterref04_Alike.mono _ _ _
   | exact rafterref04_whole.mono _ _ _
   | exact LeO.none _
   | refine LeO.ite ?_ ?_
   | refine LeO.bind ?_ (fun _ => ?_)
  ·intro y0 y1 y2 y3 y4 y5 y6 y7 y8
   unfold rafterref04_Hunks.l0
   repeat' first
   | (with_reducible exact ih0 _ _ _)
   | (with_reducible exact ih1 _ _ _ _ _ _ _ _ _)
   | (with_reducible exact ih2 _ _ _ _ _ _ _ _ _ _)
   | (with_reducible exact ih3 _ _ _ _ _ _ _ _ _ _)
   | (with_reducible exact ih4 _ _ _ _ _ _ _ _ _ _)
   | (with_reducible exact rafterref04_Alike.mono _ _ _)
   | (with_reducible exact rafterref04_whole.mono _ _ _)
   | (with_reducible exact LeO.refl _)
   | (with_reducible exact LeO.none _)
   | (with_reducible refine LeO.ite ?_ ?_)
   | (with_reducible refine LeO.bind ?_ (fun _ => ?_))
   | exact ih0 _ _ _
   | exact ih1 _ _ _ _ _ _ _ _ _
   | exact ih2 _ _ _ _ _ _ _ _ _ _
   | exact ih3 _ _ _ _ _ _ _ _ _ _
   | exact ih4 _ _ _ _ _ _ _ _ _ _
   | exact rafterref04_Alike.mono _ _ _
   | exact rafterref04_whole.mono _ _ _
   | exact LeO.none _
   | refine LeO.ite ?_ ?_
   | refine LeO.bind ?_ (fun _ => ?_)
  ·intro y0 y1 y2 y3 y4 y5 y6 y7 y8 y9
   unfold rafterref04_Hunks.j2
   repeat' first
   | (with_reducible exact ih0 _ _ _)
   | (with_reducible exact ih1 _ _ _ _ _ _ _ _ _)
   | (with_reducible exact ih2 _ _ _ _ _ _ _ _ _ _)
   | (with_reducible exact ih3 _ _ _ _ _ _ _ _ _ _)
   | (with_reducible exact ih4 _ _ _ _ _ _ _ _ _ _)
   | (with_reducible exact rafterref04_Alike.mono _ _ _)
   | (with_reducible exact rafterref04_whole.mono _ _ _)
   | (with_reducible exact LeO.refl _)
   | (with_reducible exact LeO.none _)
   | (with_reducible refine LeO.ite ?_ ?_)
   | (with_reducible refine LeO.bind ?_ (fun _ => ?_))
   | exact ih0 _ _ _
   | exact ih1 _ _ _ _ _ _ _ _ _
   | exact ih2 _ _ _ _ _ _ _ _ _ _
   | exact ih3 _ _ _ _ _ _ _ _ _ _
   | exact ih4 _ _ _ _ _ _ _ _ _ _
   | exact rafterref04_Alike.mono _ _ _
   | exact rafterref04_whole.mono _ _ _
   | exact LeO.none _
   | refine LeO.ite ?_ ?_
   | refine LeO.bind ?_ (fun _ => ?_)
  ·intro y0 y1 y2 y3 y4 y5 y6 y7 y8 y9
   unfold rafterref04_Hunks.j3
   repeat' first
   | (with_reducible exact ih0 _ _ _)
   | (with_reducible exact ih1 _ _ _ _ _ _ _ _ _)
   | (with_reducible exact ih2 _ _ _ _ _ _ _ _ _ _)
   | (with_reducible exact ih3 _ _ _ _ _ _ _ _ _ _)
   | (with_reducible exact ih4 _ _ _ _ _ _ _ _ _ _)
   | (with_reducible exact rafterref04_Alike.mono _ _ _)
   | (with_reducible exact rafterref04_whole.mono _ _ _)
   | (with_reducible exact LeO.refl _)
   | (with_reducible exact LeO.none _)
   | (with_reducible refine LeO.ite ?_ ?_)
   | (with_reducible refine LeO.bind ?_ (fun _ => ?_))
   | exact ih0 _ _ _
   | exact ih1 _ _ _ _ _ _ _ _ _
   | exact ih2 _ _ _ _ _ _ _ _ _ _
   | exact ih3 _ _ _ _ _ _ _ _ _ _
   | exact ih4 _ _ _ _ _ _ _ _ _ _
   | exact rafterref04_Alike.mono _ _ _
   | exact rafterref04_whole.mono _ _ _
   | exact LeO.none _
   | refine LeO.ite ?_ ?_
   | refine LeO.bind ?_ (fun _ => ?_)
  ·intro y0 y1 y2 y3 y4 y5 y6 y7 y8 y9
   unfold rafterref04_Hunks.j4
   repeat' first
   | (with_reducible exact ih0 _ _ _)
   | (with_reducible exact ih1 _ _ _ _ _ _ _ _ _)
   | (with_reducible exact ih2 _ _ _ _ _ _ _ _ _ _)
   | (with_reducible exact ih3 _ _ _ _ _ _ _ _ _ _)
   | (with_reducible exact ih4 _ _ _ _ _ _ _ _ _ _)
   | (with_reducible exact rafterref04_Alike.mono _ _ _)
   | (with_reducible exact rafterref04_whole.mono _ _ _)
   | (with_reducible exact LeO.refl _)
   | (with_reducible exact LeO.none _)
   | (with_reducible refine LeO.ite ?_ ?_)
   | (with_reducible refine LeO.bind ?_ (fun _ => ?_))
   | exact ih0 _ _ _
   | exact ih1 _ _ _ _ _ _ _ _ _
   | exact ih2 _ _ _ _ _ _ _ _ _ _
   | exact ih3 _ _ _ _ _ _ _ _ _ _
   | exact ih4 _ _ _ _ _ _ _ _ _ _
   | exact rafterref04_Alike.mono _ _ _
   | exact rafterref04_whole.mono _ _ _
   | exact LeO.none _
   | refine LeO.ite ?_ ?_
   | refine LeO.bind ?_ (fun _ => ?_)
theorem rafterref04_Hunks.mono : ∀ a0 a1 k, LeO (rafterref04_Hunks.f k a0 a1) (rafterref04_Hunks.f (k + 1) a0 a1) := by
 intro a0 a1 k
 obtain ⟨ih0, ih1, ih2, ih3, ih4⟩ := rafterref04_Hunks.mono_l k
 unfold rafterref04_Hunks.f
 repeat' first
   | (with_reducible exact ih0 _ _ _)
   | (with_reducible exact ih1 _ _ _ _ _ _ _ _ _)
   | (with_reducible exact ih2 _ _ _ _ _ _ _ _ _ _)
   | (with_reducible exact ih3 _ _ _ _ _ _ _ _ _ _)
   | (with_reducible exact ih4 _ _ _ _ _ _ _ _ _ _)
   | (with_reducible exact rafterref04_Alike.mono _ _ _)
   | (with_reducible exact rafterref04_whole.mono _ _ _)
   | (with_reducible exact LeO.refl _)
   | (with_reducible exact LeO.none _)
   | (with_reducible refine LeO.ite ?_ ?_)
   | (with_reducible refine LeO.bind ?_ (fun _ => ?_))
   | exact ih0 _ _ _
   | exact ih1 _ _ _ _ _ _ _ _ _
   | exact ih2 _ _ _ _ _ _ _ _ _ _
   | exact ih3 _ _ _ _ _ _ _ _ _ _
   | exact ih4 _ _ _ _ _ _ _ _ _ _
   | exact rafterref04_Alike.mono _ _ _
   | exact rafterref04_whole.mono _ _ _
   | exact LeO.none _
   | refine LeO.ite ?_ ?_
   | refine LeO.bind ?_ (fun _ => ?_)
def rafterref04_Hunks.T9 : Bool × List (List Nat × List Nat) := (true, [([], []), ([], []), ([1], [1]), ([0, 2], [0, 2]), ([3], [3]), ([4], [4]), ([4], [4]), ([6, 4], [4, 6]), ([5, 7, 4], [4, 5, 7]), ([4, 8], [4, 8]), ([9, 4], [9]), ([10], [10]), ([10], [10]), ([11, 12, 10], [10, 11, 12]), ([13, 10], [10, 13]), ([10], [10]), ([10], [10]), ([15, 16, 10], [10, 15, 16]), ([17, 10], [10, 17]), ([14, 18, 10], [10, 14, 18]), ([10, 19], [10, 19])])
def rafterref04_Hunks.B9 : List Nat := [0, 0, 2, 7, 15, 31, 31, 95, 255, 511, 1023, 2047, 2047, 8191, 16383, 2047, 2047, 100351, 231423, 524287, 1048575]
theorem rafterref04_Hunks.tab9 : rtab .any (opsOf Try.f19 9) = rafterref04_Hunks.T9 := by kernel_rfl
theorem rafterref04_Hunks.bits9 : waitsOk rafterref04_Hunks.T9.2 rafterref04_Hunks.B9 = true := by kernel_rfl
def rafterref04_Hunks.T19 : Bool × List (List Nat × List Nat) := (true, [([], []), ([], []), ([1], [1]), ([], []), ([2, 3], [2, 3]), ([4], [4]), ([0, 5], [0, 5]), ([6], [6]), ([], []), ([7, 8], [7, 8]), ([9], [9]), ([], []), ([], []), ([12], [12]), ([], []), ([13, 14], [13, 14]), ([11, 15], [11, 15]), ([16], [16]), ([], []), ([18], [18]), ([17, 19], [17, 19]), ([20], [20]), ([10, 21], [10, 21]), ([22, 0, 1, 2, 3, 4, 5, 6, 7, 8, 9, 10, 11, 12, 13, 14, 15, 16, 17, 18, 19, 20, 21, 22], [22])])
def rafterref04_Hunks.B19 : List Nat := [0, 0, 2, 0, 14, 30, 63, 127, 0, 511, 1023, 0, 0, 4096, 0, 28672, 63488, 129024, 0, 262144, 1046528, 2095104, 4194303, 8388607]
theorem rafterref04_Hunks.tab19 : rtab .any (opsOf Try.f19 19) = rafterref04_Hunks.T19 := by kernel_rfl
theorem rafterref04_Hunks.bits19 : waitsOk rafterref04_Hunks.T19.2 rafterref04_Hunks.B19 = true := by kernel_rfl
def rafterref04_Hunks.T21 : Bool × List (List Nat × List Nat) := (true, [([], []), ([0], [0]), ([], []), ([], []), ([2, 3], [2, 3]), ([4], [4]), ([5], [5]), ([1, 6], [1, 6]), ([0, 1, 2, 3, 4, 5, 6, 7], []), ([8, 7, 7, 0, 1, 2, 3, 4, 5, 6, 7], [7, 8])])
def rafterref04_Hunks.B21 : List Nat := [0, 1, 0, 0, 12, 28, 60, 127, 255, 511]
theorem rafterref04_Hunks.tab21 : rtab .any (opsOf Try.f19 21) = rafterref04_Hunks.T21 := by kernel_rfl
theorem rafterref04_Hunks.bits21 : waitsOk rafterref04_Hunks.T21.2 rafterref04_Hunks.B21 = true := by kernel_rfl
def rafterref04_Hunks.T23 : Bool × List (List Nat × List Nat) := (true, [([], []), ([0], [0]), ([], []), ([], []), ([2, 3], [2, 3]), ([4], [4]), ([5], [5]), ([1, 6], [1, 6]), ([0, 1, 2, 3, 4, 5, 6, 7], []), ([8, 7, 7, 0, 1, 2, 3, 4, 5, 6, 7], [7, 8])])
def rafterref04_Hunks.B23 : List Nat := [0, 1, 0, 0, 12, 28, 60, 127, 255, 511]
theorem rafterref04_Hunks.tab23 : rtab .any (opsOf Try.f19 23) = rafterref04_Hunks.T23 := by kernel_rfl
theorem rafterref04_Hunks.bits23 : waitsOk rafterref04_Hunks.T23.2 rafterref04_Hunks.B23 = true := by kernel_rfl
set_option maxHeartbeats 8000000 in
set_option maxRecDepth 100000 in
theorem rafterref04_Hunks.calls (k : Nat) (A0 : Option Addr) (c0 : Nat) (l0 : List ByteArray) (A1 : Option Addr) (c1 : Nat) (l1 : List ByteArray) (r : List (S66)) (w : World) (hr0 : Kd.C Kd.string w A0 l0.length l0) (hc0 : l0.length ≤ c0) (hr1 : Kd.C Kd.string w A1 l1.length l1) (hc1 : l1.length ≤ c1) (h : rafterref04_Hunks.f k l0 l1 = some r) :
  Calls Try.prog 19 #[.slice A0 l0.length c0, .slice A1 l1.length c1] w fun e w' => ∃ v0_ : Value, e = .returned (v0_) ∧ Kd.N k66 66 w' w.heap.size (fun k_ => (w.heap.size ≤ k_)) v0_ r ∧ Below w.heap.size w w' := by
 have hu66 := Try.underlying66
 have HR0 := Aside0.mk hr0
 have HC0 := Aside0.mk hc0
 clear hr0 hc0
 have HR1 := Aside0.mk hr1
 have HC1 := Aside0.mk hc1
 clear hr1 hc1
 have HB := Aside0.mk (Below.refl w.heap.size w)
 have H : (if (l0.length : Int) > 400 then (rafterref04_Hunks.j0 k l0 l1 true) else (rafterref04_Hunks.j0 k l0 l1 (decide ((l1.length : Int) > 400)))) = some r := h
 clear h
 have HC3 := Aside0.mk H
 clear H
 go_enter Try.func19, Try.ntmps19
 go_upto_region 1 with (fail)
 go_cut [18] (fun v18 wc => ∃ (kq : Nat) (x18_2 : Bool), v18 = .bool x18_2 ∧ Aside0 (rafterref04_Hunks.j0 kq l0 l1 x18_2 = some r) ∧ Aside0 (kq ≤ k) ∧ Aside0 (Below w.heap.size w wc))
 case first =>
  have H := HC3.out
  clear HC3
  by_cases c4 : (l0.length : Int) > 400
  ·rw [if_pos c4] at H
   have c4b0 : decide (400 < (l0.length : Int)) = true := decide_eq_true c4
   have c4b1 : decide (400 < l0.length) = true := decide_eq_true (by omega)
   clear c4
   (first | rw [c4b0] | (simp only [i64_w, i32_w]; rw [c4b0]) | skip)
   have H' := Aside0.mk H
   clear H
   go_wp2
   go_meet
   case rel => exact ⟨_, (true), (by first | rfl | (simp; done) | (simp [*]; done)), H', ⟨by first | omega | exact Nat.le_refl _⟩, ⟨by repeat (first | (with_reducible first | exact HB.out | apply below_alloc | apply pw_below_drewN | apply below_drew1) | exact HB.out)⟩⟩
  ·rw [if_neg c4] at H
   have c4b0 : decide (400 < (l0.length : Int)) = false := decide_eq_false c4
   have c4b1 : decide (400 < l0.length) = false := decide_eq_false (by omega)
   clear c4
   (first | rw [c4b0] | (simp only [i64_w, i32_w]; rw [c4b0]) | skip)
   have H' := Aside0.mk H
   clear H
   go_wp2
   go_meet
   case rel => exact ⟨_, (decide ((l1.length : Int) > 400)), (by first | rfl | (simp; done) | (simp [*]; done)), H', ⟨by first | omega | exact Nat.le_refl _⟩, ⟨by repeat (first | (with_reducible first | exact HB.out | apply below_alloc | apply pw_below_drewN | apply below_drew1) | exact HB.out)⟩⟩
 case rest =>
  clear HC3
  try clear c1
  try clear p2
  try clear c4
  try clear c4b0
  try clear c4b1
  obtain ⟨kq, x18_2, rfl, HA, HJ2, HB⟩ := hcut
  cases kq with
  | zero => exact absurd HA.out (by simp [rafterref04_Hunks.j0])
  | succ kj2 =>
   have H := HA.out
   clear HA
   simp only [rafterref04_Hunks.j0] at H
   by_cases c5 : x18_2 = true
   ·subst c5
    have H1 : ((rafterref04_whole.f kj2 l0 l1).bind fun t284 => (some t284)) = some r := by rw [if_pos rfl] at H; exact H
    clear H
    have H := H1
    clear H1
    replace H := Option.bind_eq_some_iff.mp H
    obtain ⟨t284, A60, H⟩ := H
    replace H : (some t284) = some r := H
    have A6 := Aside0.mk A60
    clear A60
    obtain rfl := Option.some.inj H
    go_wp2_with (first | ((with_reducible refine gate_callee (f := 55) rfl ?_); refine goesL_ (some 21) rfl rfl Try.func55 (by kernel_rfl) rfl #[.slice A0 l0.length c0, .slice A1 l1.length c1] rfl (by (try simp only [List.map_toArray, List.map_cons, List.map_nil]); first | done | rfl | (simp only [List.length_drop, List.length_take]; rfl)) ?_; (with_reducible refine (rafterref04_whole.calls kj2 _ _ l0 _ _ l1 t284 _ ?side1 ?side2 ?side3 ?side4 A6.out).mono ?_); (case side1 => repeat (first | exact (Kd.C_below HR0.out HB.out) | (with_reducible refine Kd.C_alloc ?_ _) | (with_reducible refine Kd.C_drewN ?_ _) | (with_reducible refine Kd.C_drew ?_))); (case side2 => exact HC0.out); (case side3 => repeat (first | exact (Kd.C_below HR1.out HB.out) | (with_reducible refine Kd.C_alloc ?_ _) | (with_reducible refine Kd.C_drewN ?_ _) | (with_reducible refine Kd.C_drew ?_))); (case side4 => exact HC1.out); rintro e w7 ⟨v285, rfl, ho0, hb⟩; refine ⟨_, rfl, ?_⟩; have n0_ := Aside0.mk (Kd.N_lower (Kd.N_mono (ok' := fun k_ => (w.heap.size ≤ k_)) ho0 (fun k_ hk_ => (Nat.le_trans (below_size (by repeat (first | (with_reducible first | exact HB.out | apply below_alloc | apply pw_below_drewN | apply below_drew1) | exact HB.out))) hk_))) (below_size (by repeat (first | (with_reducible first | exact HB.out | apply below_alloc | apply pw_below_drewN | apply below_drew1) | exact HB.out)))); have n1_ := Aside0.mk (below_step (by repeat (first | (with_reducible first | exact HB.out | apply below_alloc | apply pw_below_drewN | apply below_drew1) | exact HB.out)) hb); clear HB; have HO286 := n0_; have HB := n1_; clear n0_ n1_; (try clear hb); (try clear hb2); (try clear hk); (try clear hi); (try clear ho0)))
    go_ret
    exact ⟨_, by first | rfl | (simp [errW_none, errW_some] <;> rfl) | (simp [*, errW_none, errW_some] <;> rfl), by (with_reducible repeat (first | apply Kd.N_alloc | apply Kd.N_drewN | apply Kd.N_drew)); exact HO286.out, by repeat (first | (with_reducible first | exact HB.out | apply below_alloc | apply pw_below_drewN | apply below_drew1) | exact HB.out)⟩
   ·replace c5 := Bool.eq_false_iff.mpr c5
    subst c5
    have H1 : ((rafterref04_Alike.f kj2 l0 l1).bind fun t287 => (rafterref04_Hunks.l0 kj2 l0 l1 t287 ([] : List (S66)) 0 0 0 ([] : List ByteArray) ([] : List ByteArray))) = some r := by rw [if_neg (show ¬ (false = true) by decide)] at H; exact H
    clear H
    have H := H1
    clear H1
    replace H := Option.bind_eq_some_iff.mp H
    obtain ⟨t287, A80, H⟩ := H
    replace H : (rafterref04_Hunks.l0 kj2 l0 l1 t287 ([] : List (S66)) 0 0 0 ([] : List ByteArray) ([] : List ByteArray)) = some r := H
    have A8 := Aside0.mk A80
    clear A80
    have H' := Aside0.mk H
    clear H
    go_wp2_with (first | ((with_reducible refine gate_callee (f := 16) rfl ?_); refine goesL_ (some 24) rfl rfl Try.func16 (by kernel_rfl) rfl #[.slice A0 l0.length c0, .slice A1 l1.length c1] rfl (by (try simp only [List.map_toArray, List.map_cons, List.map_nil]); first | done | rfl | (simp only [List.length_drop, List.length_take]; rfl)) ?_; (with_reducible refine (rafterref04_Alike.calls kj2 _ _ l0 _ _ l1 t287 _ ?side1 ?side2 ?side3 ?side4 A8.out).mono ?_); (case side1 => repeat (first | exact (Kd.C_below HR0.out HB.out) | (with_reducible refine Kd.C_alloc ?_ _) | (with_reducible refine Kd.C_drewN ?_ _) | (with_reducible refine Kd.C_drew ?_))); (case side2 => exact HC0.out); (case side3 => repeat (first | exact (Kd.C_below HR1.out HB.out) | (with_reducible refine Kd.C_alloc ?_ _) | (with_reducible refine Kd.C_drewN ?_ _) | (with_reducible refine Kd.C_drew ?_))); (case side4 => exact HC1.out); rintro e w9 ⟨v288, rfl, ho0, hb⟩; refine ⟨_, rfl, ?_⟩; have n0_ := Aside0.mk (Kd.N_lower (Kd.N_mono (ok' := fun k_ => (w.heap.size ≤ k_)) (Kd.S_N (Kd.S_bound ho0)) (fun k_ hk_ => (Nat.le_trans (below_size (by repeat (first | (with_reducible first | exact HB.out | apply below_alloc | apply pw_below_drewN | apply below_drew1) | exact HB.out))) hk_.2.1))) (below_size (by repeat (first | (with_reducible first | exact HB.out | apply below_alloc | apply pw_below_drewN | apply below_drew1) | exact HB.out)))); have n1_ := Aside0.mk (below_step (by repeat (first | (with_reducible first | exact HB.out | apply below_alloc | apply pw_below_drewN | apply below_drew1) | exact HB.out)) hb); clear HB; have HO289 := n0_; have HB := n1_; clear n0_ n1_; (try clear hb); (try clear hb2); (try clear hk); (try clear hi); (try clear ho0)) | ((with_reducible refine gate_dst (N := 7) rfl ?_); (try (refine gate_guard (by rfl) ?_; dsimp only)); refine box_event ?hg (N := 7) ?hd (cs := #[.int .i64 0, .slice none 0 0, .slice none 0 0]) (t := 66) ?hr ?_; (case hd => rfl); (case hg => rfl); (case hr => first | (go_simp; done) | (go_simp; rfl)); intro gb290 hg w10 hbox hb; have n0_ := Aside0.mk (Kd.N_below (Kd.N_elderB (by (with_reducible repeat (first | apply Kd.N_alloc | apply Kd.N_drewN | apply Kd.N_drew)); exact HO289.out) gb290 (Nat.le_of_eq hg.symm)) hb); have n1_ := Aside0.mk (below_step (by repeat (first | (with_reducible first | exact HB.out | apply below_alloc | apply pw_below_drewN | apply below_drew1) | exact HB.out)) hb); have n2_ := Aside0.mk (hbox); have n3_ := Aside0.mk ((by rw [hg]; exact (below_size (by repeat (first | (with_reducible first | exact HB.out | apply below_alloc | apply pw_below_drewN | apply below_drew1) | exact HB.out))) : w.heap.size ≤ gb290)); have n4_ := Aside0.mk ((by rw [hg]; exact (below_size (by repeat (first | (with_reducible first | exact HB.out | apply below_alloc | apply pw_below_drewN | apply below_drew1) | exact HB.out))) : w.heap.size ≤ gb290)); clear HO289; clear HB; have HO289 := n0_; have HB := n1_; have BK290 := n2_; have GW290 := n3_; have GE290 := n4_; clear n0_ n1_ n2_ n3_ n4_; clear hb hbox hg; have hcz11_0 : w10.cell? ⟨gb290, 0, none⟩ = some (.int .i64 0) := (blk_cell BK290.out 0).trans rfl; have hcz11_1 : w10.cell? ⟨gb290, 1, none⟩ = some (.slice none 0 0) := (blk_cell BK290.out 1).trans rfl; have hcz11_2 : w10.cell? ⟨gb290, 2, none⟩ = some (.slice none 0 0) := (blk_cell BK290.out 2).trans rfl; have hfz11_0 := blk_frozen BK290.out 0; have hfz11_1 := blk_frozen BK290.out 1; have hfz11_2 := blk_frozen BK290.out 2))
    go_loopg [6, 8, 9] kj2 (fun kq v6 v8 v9 w' => ∃ (x6_2 : List (S66)) (x8_2 : Int) (x9_2 : Int) (x291000_2 : Int) (x291001_2 : List ByteArray) (x291002_2 : List ByteArray) (u291001 : Value) (u291002 : Value), v8 = .int .i64 x8_2 ∧ v9 = .int .i64 x9_2 ∧ Aside0 (rafterref04_Hunks.l0 kq l0 l1 t287 x6_2 x8_2 x9_2 x291000_2 x291001_2 x291002_2 = some r) ∧ Aside0 (kq ≤ kj2) ∧ Aside0 (Kd.N (Kd.slice 3 (Kd.int .i64)) 33 w' w.heap.size (fun k_ => (w.heap.size ≤ k_) ∧ some k_ ≠ (v6 : Value).ownBlock ∧ some k_ ≠ (u291001 : Value).ownBlock ∧ some k_ ≠ (u291002 : Value).ownBlock ∧ k_ ≠ gb290) v288 t287) ∧ Aside0 (Kd.N k66 66 w' w.heap.size (fun k_ => (w.heap.size ≤ k_) ∧ some k_ ≠ (v288 : Value).ownBlock ∧ some k_ ≠ (u291001 : Value).ownBlock ∧ some k_ ≠ (u291002 : Value).ownBlock ∧ k_ ≠ gb290) v6 x6_2) ∧ Aside0 (Kd.R Kd.string 9 w' w.heap.size (fun k_ => (w.heap.size ≤ k_) ∧ some k_ ≠ (u291002 : Value).ownBlock) u291001 x291001_2) ∧ Aside0 (Kd.R Kd.string 9 w' w.heap.size (fun k_ => (w.heap.size ≤ k_) ∧ some k_ ≠ (u291001 : Value).ownBlock) u291002 x291002_2) ∧ Aside0 (w'.heap[gb290]? = some (.cells #[.int .i64 x291000_2, u291001, u291002] 66 (0, 0))) ∧ Aside0 (Below w.heap.size w w'))
    case atStart => exact ⟨(([] : List (S66))), (0), (0), (0), (([] : List ByteArray)), (([] : List ByteArray)), (.slice none 0 0), (.slice none 0 0), (by first | rfl | (simp; done) | (simp [*]; done)), (by first | rfl | (simp; done) | (simp [*]; done)), H', ⟨Nat.le_refl _⟩, ⟨by (with_reducible repeat (first | apply Kd.N_alloc | apply Kd.N_drewN | apply Kd.N_drew)); exact Kd.N_mono (Kd.N_far (p := ⟨gb290, 2, none⟩) (Kd.N_far (p := ⟨gb290, 1, none⟩) (Kd.N_far (p := ⟨gb290, 0, none⟩) (Kd.N_mono HO289.out (fun k_ hk => (⟨hk, hk.2⟩ : _ ∧ k_ ≠ gb290))) (fun _ hk => hk.2) (.int .i64 0)) (fun _ hk => hk.2) (.slice none 0 0)) (fun _ hk => hk.2) (.slice none 0 0)) (fun _ hk => ⟨hk.1.1, ⟨(by simp [Value.ownBlock]), ⟨(by simp [Value.ownBlock]), ⟨(by simp [Value.ownBlock]), hk.1.2⟩⟩⟩⟩)⟩, ⟨by first | exact Kd.S_nil _ _ _ _ _ | exact Kd.N_nil _ _ _ _ _ | exact Kd.V_nil _ _ _ _ _ | exact Kd.Q_nil _ _ _ _ _ | exact Kd.R_nil _ _ _ _ _⟩, ⟨by first | exact Kd.R_nil _ _ _ _ _ | exact Kd.N_nil _ _ _ _ _ | exact Kd.V_nil _ _ _ _ _ | exact Kd.Q_nil _ _ _ _ _ | exact Kd.S_nil _ _ _ _ _⟩, ⟨by first | exact Kd.R_nil _ _ _ _ _ | exact Kd.N_nil _ _ _ _ _ | exact Kd.V_nil _ _ _ _ _ | exact Kd.Q_nil _ _ _ _ _ | exact Kd.S_nil _ _ _ _ _⟩, ⟨by (with_reducible repeat (first | refine blk_drewN ?_ _ | refine blk_drew ?_ | refine blk_alloc ?_ _)); refine blk_put (cs := #[.int .i64 0, .slice none 0 0, .slice none 0 0]) ?_ 2 _ rfl; (with_reducible repeat (first | refine blk_drewN ?_ _ | refine blk_drew ?_ | refine blk_alloc ?_ _)); refine blk_put (cs := #[.int .i64 0, .slice none 0 0, .slice none 0 0]) ?_ 1 _ rfl; (with_reducible repeat (first | refine blk_drewN ?_ _ | refine blk_drew ?_ | refine blk_alloc ?_ _)); refine blk_put (cs := #[.int .i64 0, .slice none 0 0, .slice none 0 0]) ?_ 0 _ rfl; (with_reducible repeat (first | refine blk_drewN ?_ _ | refine blk_drew ?_ | refine blk_alloc ?_ _)); exact BK290.out⟩, ⟨by repeat (first | (with_reducible first | exact HB.out | apply below_alloc | apply pw_below_drewN | apply below_drew1 | refine below_set ?_ GE290.out) | exact HB.out)⟩⟩
    case round =>
     clear H'
     try clear c1
     try clear p2
     try clear c4
     try clear c4b0
     try clear c4b1
     try clear c5
     try clear hcz11_0
     try clear hcz11_1
     try clear hcz11_2
     try clear hfz11_0
     try clear hfz11_1
     try clear hfz11_2
     try clear p2
     obtain ⟨x6_2, x8_2, x9_2, x291000_2, x291001_2, x291002_2, u291001, u291002, rfl, rfl, HA, HK2, HO_5, HO_6, HO_291001, HO_291002, BK290, HB⟩ := hrel
     cases gk with
     | zero => exact absurd HA.out (by simp [rafterref04_Hunks.l0])
     | succ k2 =>
      have H := HA.out
      clear HA
      simp only [rafterref04_Hunks.l0] at H
      have HC12 := Aside0.mk H
      clear H
      go_upto_region 8 with (fail)
      go_cut [35] (fun v35 wc => ∃ (kq : Nat) (x35_11 : Bool), v35 = .bool x35_11 ∧ Aside0 (rafterref04_Hunks.j2 kq l0 l1 t287 x6_2 x8_2 x9_2 x35_11 x291000_2 x291001_2 x291002_2 = some r) ∧ Aside0 (kq ≤ k2) ∧ Aside0 (Kd.N (Kd.slice 3 (Kd.int .i64)) 33 wc w.heap.size (fun k_ => (w.heap.size ≤ k_) ∧ some k_ ≠ (u6 : Value).ownBlock ∧ some k_ ≠ (u291001 : Value).ownBlock ∧ some k_ ≠ (u291002 : Value).ownBlock ∧ k_ ≠ gb290) v288 t287) ∧ Aside0 (Kd.N k66 66 wc w.heap.size (fun k_ => (w.heap.size ≤ k_) ∧ some k_ ≠ (v288 : Value).ownBlock ∧ some k_ ≠ (u291001 : Value).ownBlock ∧ some k_ ≠ (u291002 : Value).ownBlock ∧ k_ ≠ gb290) u6 x6_2) ∧ Aside0 (Kd.R Kd.string 9 wc w.heap.size (fun k_ => (w.heap.size ≤ k_) ∧ some k_ ≠ (u291002 : Value).ownBlock) u291001 x291001_2) ∧ Aside0 (Kd.R Kd.string 9 wc w.heap.size (fun k_ => (w.heap.size ≤ k_) ∧ some k_ ≠ (u291001 : Value).ownBlock) u291002 x291002_2) ∧ Aside0 (wc.heap[gb290]? = some (.cells #[.int .i64 x291000_2, u291001, u291002] 66 (0, 0))) ∧ Aside0 (Below w.heap.size w wc))
      case first =>
       have H := HC12.out
       clear HC12
       by_cases c13 : x8_2 < (l0.length : Int)
       ·rw [if_pos c13] at H
        have c13b0 : decide (x8_2 < (l0.length : Int)) = true := decide_eq_true c13
        clear c13
        (first | rw [c13b0] | (simp only [i64_w, i32_w]; rw [c13b0]) | skip)
        have H' := Aside0.mk H
        clear H
        go_wp2
        go_meet
        case rel => exact ⟨_, (true), (by first | rfl | (simp; done) | (simp [*]; done)), H', ⟨by have := HJ2.out; have := HK2.out; first | omega | exact Nat.le_refl _⟩, ⟨by (with_reducible repeat (first | apply Kd.N_alloc | apply Kd.N_drewN | apply Kd.N_drew)); exact HO_5.out⟩, ⟨by (with_reducible repeat (first | apply Kd.N_alloc | apply Kd.N_drewN | apply Kd.N_drew)); exact HO_6.out⟩, ⟨by (with_reducible repeat (first | apply Kd.R_alloc | apply Kd.R_drewN | apply Kd.R_drew)); exact HO_291001.out⟩, ⟨by (with_reducible repeat (first | apply Kd.R_alloc | apply Kd.R_drewN | apply Kd.R_drew)); exact HO_291002.out⟩, ⟨by (with_reducible repeat (first | refine blk_drewN ?_ _ | refine blk_drew ?_ | refine blk_alloc ?_ _)); exact BK290.out⟩, ⟨by repeat (first | (with_reducible first | exact HB.out | apply below_alloc | apply pw_below_drewN | apply below_drew1 | refine below_set ?_ GE290.out) | exact HB.out)⟩⟩
       ·rw [if_neg c13] at H
        have c13b0 : decide (x8_2 < (l0.length : Int)) = false := decide_eq_false c13
        clear c13
        (first | rw [c13b0] | (simp only [i64_w, i32_w]; rw [c13b0]) | skip)
        have H' := Aside0.mk H
        clear H
        go_wp2
        go_meet
        case rel => exact ⟨_, (decide (x9_2 < (l1.length : Int))), (by first | rfl | (simp; done) | (simp [*]; done)), H', ⟨by have := HJ2.out; have := HK2.out; first | omega | exact Nat.le_refl _⟩, ⟨by (with_reducible repeat (first | apply Kd.N_alloc | apply Kd.N_drewN | apply Kd.N_drew)); exact HO_5.out⟩, ⟨by (with_reducible repeat (first | apply Kd.N_alloc | apply Kd.N_drewN | apply Kd.N_drew)); exact HO_6.out⟩, ⟨by (with_reducible repeat (first | apply Kd.R_alloc | apply Kd.R_drewN | apply Kd.R_drew)); exact HO_291001.out⟩, ⟨by (with_reducible repeat (first | apply Kd.R_alloc | apply Kd.R_drewN | apply Kd.R_drew)); exact HO_291002.out⟩, ⟨by (with_reducible repeat (first | refine blk_drewN ?_ _ | refine blk_drew ?_ | refine blk_alloc ?_ _)); exact BK290.out⟩, ⟨by repeat (first | (with_reducible first | exact HB.out | apply below_alloc | apply pw_below_drewN | apply below_drew1 | refine below_set ?_ GE290.out) | exact HB.out)⟩⟩
      case rest =>
       clear HC12
       try clear c1
       try clear p2
       try clear c4
       try clear c4b0
       try clear c4b1
       try clear c5
       try clear c13
       try clear c13b0
       try clear hcz11_0
       try clear hcz11_1
       try clear hcz11_2
       try clear hfz11_0
       try clear hfz11_1
       try clear hfz11_2
       try clear p2
       obtain ⟨kq, x35_11, rfl, HA, HJ11, HO_5, HO_6, HO_291001, HO_291002, BK290, HB⟩ := hcut
       cases kq with
       | zero => exact absurd HA.out (by simp [rafterref04_Hunks.j2])
       | succ kj11 =>
        have H := HA.out
        clear HA
        simp only [rafterref04_Hunks.j2] at H
        by_cases c14 : x35_11 = true
        ·subst c14
         have H1 : (if x8_2 < (l0.length : Int) then (if x9_2 < (l1.length : Int) then (if 0 ≤ x8_2 then (if 0 ≤ x9_2 then (rafterref04_Hunks.j3 kj11 l0 l1 t287 x6_2 x8_2 x9_2 ((rdOf ByteArray.empty l0 x8_2).toList == (rdOf ByteArray.empty l1 x9_2).toList) x291000_2 x291001_2 x291002_2) else (none)) else (none)) else (rafterref04_Hunks.j3 kj11 l0 l1 t287 x6_2 x8_2 x9_2 false x291000_2 x291001_2 x291002_2)) else (rafterref04_Hunks.j3 kj11 l0 l1 t287 x6_2 x8_2 x9_2 false x291000_2 x291001_2 x291002_2)) = some r := by rw [if_pos rfl] at H; exact H
         clear H
         have H := H1
         clear H1
         have HC15 := Aside0.mk H
         clear H
         go_upto_region 9 with (fail)
         go_cut [56] (fun v56 wc => ∃ (kq : Nat) (x56_14 : Bool), v56 = .bool x56_14 ∧ Aside0 (rafterref04_Hunks.j3 kq l0 l1 t287 x6_2 x8_2 x9_2 x56_14 x291000_2 x291001_2 x291002_2 = some r) ∧ Aside0 (kq ≤ kj11) ∧ Aside0 (Kd.N (Kd.slice 3 (Kd.int .i64)) 33 wc w.heap.size (fun k_ => (w.heap.size ≤ k_) ∧ some k_ ≠ (u6 : Value).ownBlock ∧ some k_ ≠ (u291001 : Value).ownBlock ∧ some k_ ≠ (u291002 : Value).ownBlock ∧ k_ ≠ gb290) v288 t287) ∧ Aside0 (Kd.N k66 66 wc w.heap.size (fun k_ => (w.heap.size ≤ k_) ∧ some k_ ≠ (v288 : Value).ownBlock ∧ some k_ ≠ (u291001 : Value).ownBlock ∧ some k_ ≠ (u291002 : Value).ownBlock ∧ k_ ≠ gb290) u6 x6_2) ∧ Aside0 (Kd.R Kd.string 9 wc w.heap.size (fun k_ => (w.heap.size ≤ k_) ∧ some k_ ≠ (u291002 : Value).ownBlock) u291001 x291001_2) ∧ Aside0 (Kd.R Kd.string 9 wc w.heap.size (fun k_ => (w.heap.size ≤ k_) ∧ some k_ ≠ (u291001 : Value).ownBlock) u291002 x291002_2) ∧ Aside0 (wc.heap[gb290]? = some (.cells #[.int .i64 x291000_2, u291001, u291002] 66 (0, 0))) ∧ Aside0 (Below w.heap.size w wc))
         case first =>
          have H := HC15.out
          clear HC15
          by_cases c16 : x8_2 < (l0.length : Int)
          ·rw [if_pos c16] at H
           have c16b0 : decide (x8_2 < (l0.length : Int)) = true := decide_eq_true c16
           clear c16
           (first | rw [c16b0] | (simp only [i64_w, i32_w]; rw [c16b0]) | skip)
           by_cases c17 : x9_2 < (l1.length : Int)
           ·rw [if_pos c17] at H
            have c17b0 : decide (x9_2 < (l1.length : Int)) = true := decide_eq_true c17
            clear c17
            by_cases c18 : 0 ≤ x8_2
            ·rw [if_pos c18] at H
             have c18b0 : decide (0 ≤ x8_2) = true := decide_eq_true c18
             clear c18
             by_cases c19 : 0 ≤ x9_2
             ·rw [if_pos c19] at H
              have c19b0 : decide (0 ≤ x9_2) = true := decide_eq_true c19
              clear c19
              have H' := Aside0.mk H
              clear H
              try go_wp2
              have n0_ := Aside0.mk (Kd.N_drew HO_5.out)
              have n1_ := Aside0.mk (Kd.N_drew HO_6.out)
              have n2_ := Aside0.mk (Kd.R_drew HO_291001.out)
              have n3_ := Aside0.mk (Kd.R_drew HO_291002.out)
              have n4_ := Aside0.mk (blk_drew BK290.out)
              have n5_ := Aside0.mk (below_drew1 HB.out)
              clear HO_5
              clear HO_6
              clear HO_291001
              clear HO_291002
              clear BK290
              clear HB
              have HO_5 := n0_
              have HO_6 := n1_
              have HO_291001 := n2_
              have HO_291002 := n3_
              have BK290 := n4_
              have HB := n5_
              clear n0_ n1_ n2_ n3_ n4_ n5_
              have p291 : 0 ≤ (x8_2 : Int) := of_decide_eq_true (by first | (with_reducible assumption) | assumption)
              have q291 : x8_2 < (l0.length : Int) := of_decide_eq_true (by first | (with_reducible assumption) | assumption)
              obtain ⟨ad291, e291, hx291_0⟩ := Kd.at_string HR0.out x8_2 p291 q291
              have hw291_0 := hx291_0
              cases e291
              replace hx291_0 := (HB.out.cell (World.block_lt_of_cell? w _ hx291_0)).trans hx291_0
              replace p291 := eq_true p291
              replace q291 := eq_true q291
              have p292 : 0 ≤ (x9_2 : Int) := of_decide_eq_true (by first | (with_reducible assumption) | assumption)
              have q292 : x9_2 < (l1.length : Int) := of_decide_eq_true (by first | (with_reducible assumption) | assumption)
              obtain ⟨ad292, e292, hx292_0⟩ := Kd.at_string HR1.out x9_2 p292 q292
              have hw292_0 := hx292_0
              cases e292
              replace hx292_0 := (HB.out.cell (World.block_lt_of_cell? w _ hx292_0)).trans hx292_0
              replace p292 := eq_true p292
              replace q292 := eq_true q292
              refine start_ (n := 21) (S := fun w' => w'.cell? (ad291.add (x8_2).toNat) = some (.string (rdOf ByteArray.empty l0 x8_2)) ∧ w'.cell? (ad292.add (x9_2).toNat) = some (.string (rdOf ByteArray.empty l1 x9_2))) (ds := []) #[false, false, false, false, false, false, false, false, false, false, false, false, false, false, false, false, false, false, false, false, false] (by kernel_rfl) rfl rfl ⟨((HB.out.cell (World.block_lt_of_cell? w _ hw291_0)).trans hw291_0), ((HB.out.cell (World.block_lt_of_cell? w _ hw292_0)).trans hw292_0)⟩ (fun hHeld => ?_); refine with_tabW rafterref04_Hunks.tab9 rafterref04_Hunks.bits9 (fun HT_ HW_ => ?_)
              generalize wc.drew = w20 at HO_5 HO_6 HO_291001 HO_291002 BK290 HB hx291_0 hx292_0 hHeld ⊢
              refine pq_ 0 (some 36) HT_ ?_; refine pq_ 1 (some 37) HT_ ?_; refine pq_ 2 (some 38) HT_ ?_; refine pq_ 3 (some 39) HT_ ?_; refine pq_ 4 (some 40) HT_ ?_; refine pq_ 5 (some 41) HT_ ?_; refine pq_ 6 (some 42) HT_ ?_; refine pq_ 7 (some 43) HT_ ?_; refine pq_ 8 (some 44) HT_ ?_; refine pq_ 9 (some 45) HT_ ?_; refine pq_ 10 (some 46) HT_ ?_; refine pq_ 11 (some 47) HT_ ?_
              refine pq_ 12 (some 48) HT_ ?_; refine pq_ 13 (some 49) HT_ ?_; refine pq_ 15 (some 51) HT_ ?_; refine pq_ 16 (some 52) HT_ ?_; refine pq_ 17 (some 53) HT_ ?_; refine tq_ 14 (some 50) HT_ HW_ hHeld ?_; refine tq_ 18 (some 54) HT_ HW_ hHeld ?_; refine pq_ 19 (some 55) HT_ ?_; refine pq_ 20 (some 56) HT_ ?_
              refine done_ (done_of HT_.out (by kernel_rfl)) ?_
              try go_wp2
              go_meet
              case rel => exact ⟨_, (((rdOf ByteArray.empty l0 x8_2).toList == (rdOf ByteArray.empty l1 x9_2).toList)), (by first | rfl | (simp; done) | (simp [*]; done)), H', ⟨by have := HJ2.out; have := HK2.out; have := HJ11.out; first | omega | exact Nat.le_refl _⟩, ⟨by (with_reducible repeat (first | apply Kd.N_alloc | apply Kd.N_drewN | apply Kd.N_drew)); exact HO_5.out⟩, ⟨by (with_reducible repeat (first | apply Kd.N_alloc | apply Kd.N_drewN | apply Kd.N_drew)); exact HO_6.out⟩, ⟨by (with_reducible repeat (first | apply Kd.R_alloc | apply Kd.R_drewN | apply Kd.R_drew)); exact HO_291001.out⟩, ⟨by (with_reducible repeat (first | apply Kd.R_alloc | apply Kd.R_drewN | apply Kd.R_drew)); exact HO_291002.out⟩, ⟨by (with_reducible repeat (first | refine blk_drewN ?_ _ | refine blk_drew ?_ | refine blk_alloc ?_ _)); exact BK290.out⟩, ⟨by repeat (first | (with_reducible first | exact HB.out | apply below_alloc | apply pw_below_drewN | apply below_drew1 | refine below_set ?_ GE290.out) | exact HB.out)⟩⟩
             ·rw [if_neg c19] at H
              exact absurd H (by simp)
            ·rw [if_neg c18] at H
             exact absurd H (by simp)
           ·rw [if_neg c17] at H
            have c17b0 : decide (x9_2 < (l1.length : Int)) = false := decide_eq_false c17
            clear c17
            have H' := Aside0.mk H
            clear H
            try go_wp2
            have n0_ := Aside0.mk (Kd.N_drew HO_5.out)
            have n1_ := Aside0.mk (Kd.N_drew HO_6.out)
            have n2_ := Aside0.mk (Kd.R_drew HO_291001.out)
            have n3_ := Aside0.mk (Kd.R_drew HO_291002.out)
            have n4_ := Aside0.mk (blk_drew BK290.out)
            have n5_ := Aside0.mk (below_drew1 HB.out)
            clear HO_5
            clear HO_6
            clear HO_291001
            clear HO_291002
            clear BK290
            clear HB
            have HO_5 := n0_
            have HO_6 := n1_
            have HO_291001 := n2_
            have HO_291002 := n3_
            have BK290 := n4_
            have HB := n5_
            clear n0_ n1_ n2_ n3_ n4_ n5_
            refine start_ (n := 21) (S := fun w' => True) (ds := []) #[false, false, false, false, false, false, false, false, false, false, false, false, false, false, false, false, false, false, false, false, false] (by kernel_rfl) rfl rfl trivial (fun hHeld => ?_); refine with_tabW rafterref04_Hunks.tab9 rafterref04_Hunks.bits9 (fun HT_ HW_ => ?_)
            generalize wc.drew = w21 at HO_5 HO_6 HO_291001 HO_291002 BK290 HB hHeld ⊢
            refine pq_ 0 (some 36) HT_ ?_; refine pq_ 1 (some 37) HT_ ?_; refine pq_ 2 (some 38) HT_ ?_; refine pq_ 3 (some 39) HT_ ?_; refine pq_ 4 (some 40) HT_ ?_; refine pq_ 5 (some 41) HT_ ?_; refine pq_ 6 (some 42) HT_ ?_; refine pq_ 7 (some 43) HT_ ?_; refine pq_ 8 (some 44) HT_ ?_; refine pq_ 9 (some 45) HT_ ?_; refine pq_ 10 (some 46) HT_ ?_; refine pf_ 11 (some 47) HT_ ?_; refine pf_ 12 (some 48) HT_ ?_
            refine pf_ 13 (some 49) HT_ ?_; refine pf_ 14 (some 50) HT_ ?_; refine pf_ 15 (some 51) HT_ ?_; refine pf_ 16 (some 52) HT_ ?_; refine pf_ 17 (some 53) HT_ ?_; refine pf_ 18 (some 54) HT_ ?_; refine pf_ 19 (some 55) HT_ ?_; refine pq_ 20 (some 56) HT_ ?_
            refine done_ (done_of HT_.out (by kernel_rfl)) ?_
            try go_wp2
            go_meet
            case rel => exact ⟨_, (false), (by first | rfl | (simp; done) | (simp [*]; done)), H', ⟨by have := HJ2.out; have := HK2.out; have := HJ11.out; first | omega | exact Nat.le_refl _⟩, ⟨by (with_reducible repeat (first | apply Kd.N_alloc | apply Kd.N_drewN | apply Kd.N_drew)); exact HO_5.out⟩, ⟨by (with_reducible repeat (first | apply Kd.N_alloc | apply Kd.N_drewN | apply Kd.N_drew)); exact HO_6.out⟩, ⟨by (with_reducible repeat (first | apply Kd.R_alloc | apply Kd.R_drewN | apply Kd.R_drew)); exact HO_291001.out⟩, ⟨by (with_reducible repeat (first | apply Kd.R_alloc | apply Kd.R_drewN | apply Kd.R_drew)); exact HO_291002.out⟩, ⟨by (with_reducible repeat (first | refine blk_drewN ?_ _ | refine blk_drew ?_ | refine blk_alloc ?_ _)); exact BK290.out⟩, ⟨by repeat (first | (with_reducible first | exact HB.out | apply below_alloc | apply pw_below_drewN | apply below_drew1 | refine below_set ?_ GE290.out) | exact HB.out)⟩⟩
          ·rw [if_neg c16] at H
           have c16b0 : decide (x8_2 < (l0.length : Int)) = false := decide_eq_false c16
           clear c16
           (first | rw [c16b0] | (simp only [i64_w, i32_w]; rw [c16b0]) | skip)
           have H' := Aside0.mk H
           clear H
           try go_wp2
           have n0_ := Aside0.mk (Kd.N_drew HO_5.out)
           have n1_ := Aside0.mk (Kd.N_drew HO_6.out)
           have n2_ := Aside0.mk (Kd.R_drew HO_291001.out)
           have n3_ := Aside0.mk (Kd.R_drew HO_291002.out)
           have n4_ := Aside0.mk (blk_drew BK290.out)
           have n5_ := Aside0.mk (below_drew1 HB.out)
           clear HO_5
           clear HO_6
           clear HO_291001
           clear HO_291002
           clear BK290
           clear HB
           have HO_5 := n0_
           have HO_6 := n1_
           have HO_291001 := n2_
           have HO_291002 := n3_
           have BK290 := n4_
           have HB := n5_
           clear n0_ n1_ n2_ n3_ n4_ n5_
           refine start_ (n := 21) (S := fun w' => True) (ds := []) #[false, false, false, false, false, false, false, false, false, false, false, false, false, false, false, false, false, false, false, false, false] (by kernel_rfl) rfl rfl trivial (fun hHeld => ?_); refine with_tabW rafterref04_Hunks.tab9 rafterref04_Hunks.bits9 (fun HT_ HW_ => ?_)
           generalize wc.drew = w22 at HO_5 HO_6 HO_291001 HO_291002 BK290 HB hHeld ⊢
           refine pq_ 0 (some 36) HT_ ?_; refine pq_ 1 (some 37) HT_ ?_; refine pq_ 2 (some 38) HT_ ?_; refine pq_ 3 (some 39) HT_ ?_; refine pq_ 4 (some 40) HT_ ?_; refine pf_ 5 (some 41) HT_ ?_; refine pf_ 6 (some 42) HT_ ?_; refine pf_ 7 (some 43) HT_ ?_; refine pf_ 8 (some 44) HT_ ?_; refine pq_ 9 (some 45) HT_ ?_; refine pq_ 10 (some 46) HT_ ?_; refine pf_ 11 (some 47) HT_ ?_; refine pf_ 12 (some 48) HT_ ?_
           refine pf_ 13 (some 49) HT_ ?_; refine pf_ 14 (some 50) HT_ ?_; refine pf_ 15 (some 51) HT_ ?_; refine pf_ 16 (some 52) HT_ ?_; refine pf_ 17 (some 53) HT_ ?_; refine pf_ 18 (some 54) HT_ ?_; refine pf_ 19 (some 55) HT_ ?_; refine pq_ 20 (some 56) HT_ ?_
           refine done_ (done_of HT_.out (by kernel_rfl)) ?_
           try go_wp2
           go_meet
           case rel => exact ⟨_, (false), (by first | rfl | (simp; done) | (simp [*]; done)), H', ⟨by have := HJ2.out; have := HK2.out; have := HJ11.out; first | omega | exact Nat.le_refl _⟩, ⟨by (with_reducible repeat (first | apply Kd.N_alloc | apply Kd.N_drewN | apply Kd.N_drew)); exact HO_5.out⟩, ⟨by (with_reducible repeat (first | apply Kd.N_alloc | apply Kd.N_drewN | apply Kd.N_drew)); exact HO_6.out⟩, ⟨by (with_reducible repeat (first | apply Kd.R_alloc | apply Kd.R_drewN | apply Kd.R_drew)); exact HO_291001.out⟩, ⟨by (with_reducible repeat (first | apply Kd.R_alloc | apply Kd.R_drewN | apply Kd.R_drew)); exact HO_291002.out⟩, ⟨by (with_reducible repeat (first | refine blk_drewN ?_ _ | refine blk_drew ?_ | refine blk_alloc ?_ _)); exact BK290.out⟩, ⟨by repeat (first | (with_reducible first | exact HB.out | apply below_alloc | apply pw_below_drewN | apply below_drew1 | refine below_set ?_ GE290.out) | exact HB.out)⟩⟩
         case rest =>
          clear HC15
          try clear c1
          try clear p2
          try clear q2
          try clear hx2
          try clear c4
          try clear c4b0
          try clear c4b1
          try clear c5
          try clear c13
          try clear c13b0
          try clear c14
          try clear c16
          try clear c16b0
          try clear c17
          try clear c17b0
          try clear c18
          try clear c18b0
          try clear c19
          try clear c19b0
          try clear hcz11_0
          try clear hcz11_1
          try clear hcz11_2
          try clear hfz11_0
          try clear hfz11_1
          try clear hfz11_2
          try clear hx291_0
          try clear hx292_0
          try clear p2
          try clear p291
          try clear p292
          try clear q291
          try clear q292
          obtain ⟨kq, x56_14, rfl, HA, HJ14, HO_5, HO_6, HO_291001, HO_291002, BK290, HB⟩ := hcut
          cases kq with
          | zero => exact absurd HA.out (by simp [rafterref04_Hunks.j3])
          | succ kj14 =>
           have H := HA.out
           clear HA
           simp only [rafterref04_Hunks.j3] at H
           by_cases c23 : x56_14 = true
           ·subst c23
            have H1 : (if (wrap64 ((x291001_2.length : Int) + (x291002_2.length : Int))) > 0 then (if x6_2.length < 2513169434916 then (rafterref04_Hunks.l0 kj14 l0 l1 t287 (x6_2 ++ [(⟨x291000_2, x291001_2, x291002_2⟩ : S66)]) (wrap64 (x8_2 + 1)) (wrap64 (x9_2 + 1)) (wrap64 (x8_2 + 1)) ([] : List ByteArray) ([] : List ByteArray)) else (none)) else (rafterref04_Hunks.l0 kj14 l0 l1 t287 x6_2 (wrap64 (x8_2 + 1)) (wrap64 (x9_2 + 1)) (wrap64 (x8_2 + 1)) ([] : List ByteArray) ([] : List ByteArray))) = some r := by rw [if_pos rfl] at H; exact H
            clear H
            have H := H1
            clear H1
            by_cases c24 : (wrap64 ((x291001_2.length : Int) + (x291002_2.length : Int))) > 0
            ·rw [if_pos c24] at H
             have c24b0 : decide (0 < (wrap64 ((x291001_2.length : Int) + (x291002_2.length : Int)))) = true := decide_eq_true c24
             clear c24
             by_cases c25 : x6_2.length < 2513169434916
             ·rw [if_pos c25] at H
              have LMc25 := Aside0.mk c25
              clear c25
              obtain ⟨y293, hy293⟩ : ∃ y_ : List (S66), y_ = (x6_2 ++ [(⟨x291000_2, x291001_2, x291002_2⟩ : S66)]) := ⟨_, rfl⟩
              replace H : (rafterref04_Hunks.l0 kj14 l0 l1 t287 y293 (wrap64 (x8_2 + 1)) (wrap64 (x9_2 + 1)) (wrap64 (x8_2 + 1)) ([] : List ByteArray) ([] : List ByteArray)) = some r := by first | (rw [hy293]; with_reducible exact H) | (have H2_ := (Option.bind_some _ _).symm.trans H; rw [hy293]; with_reducible exact H2_) | (have H2_ := (Option.bind_some _ _).symm.trans H; with_reducible exact H2_) | with_reducible exact H | (rw [hy293]; exact H) | exact H
              have Ny293 := Aside0.mk hy293
              clear hy293
              have H' := Aside0.mk H
              clear H
              have hcz26_0 : wc.cell? ⟨gb290, 0, none⟩ = some (.int .i64 x291000_2) := (blk_cell BK290.out 0).trans rfl
              have hcz26_1 : wc.cell? ⟨gb290, 1, none⟩ = some (u291001) := (blk_cell BK290.out 1).trans rfl
              have hcz26_2 : wc.cell? ⟨gb290, 2, none⟩ = some (u291002) := (blk_cell BK290.out 2).trans rfl
              have hfz26_0 := blk_frozen BK290.out 0
              have hfz26_1 := blk_frozen BK290.out 1
              have hfz26_2 := blk_frozen BK290.out 2
              obtain ⟨Ao27, co27, eo27⟩ := Kd.R_slice HO_291001.out
              subst eo27
              obtain ⟨Ao28, co28, eo28⟩ := Kd.R_slice HO_291002.out
              subst eo28
              go_wp2_with (first | ((with_reducible refine gate_builtin (b := .append) (xs := #[.tmp 65, .tmp 67]) rfl ?_); (try (refine gate_guard (by rfl) ?_; dsimp only)); at_builtin; refine Kd.N_append k66 (w0 := w) w.heap.size rfl (.tmp 65) (.tmp 67) 25 66 (.agg #[(.int .i64 0), (.slice none 0 0), (.slice none 0 0)]) 56 rfl Try.underlying25 info66 rfl (by decide) (by omega) u6 x6_2 (⟨x291000_2, x291001_2, x291002_2⟩ : S66) [.int .i64 x291000_2, .slice Ao27 x291001_2.length co27, .slice Ao28 x291002_2.length co28] (fun k_ => (w.heap.size ≤ k_) ∧ some k_ ≠ (v288 : Value).ownBlock ∧ k_ ≠ gb290) (fun k_ => ((fun k_ => (w.heap.size ≤ k_) ∧ some k_ ≠ (v288 : Value).ownBlock ∧ k_ ≠ gb290)) k_ ∧ some k_ ≠ (u6 : Value).ownBlock) rfl rfl ?aP (fun _ hk => hk) ?aF ?aO ?aB ?aS ?aL ?_; (case aP => exact (k66_mkF _ _ (⟨x291000_2, x291001_2, x291002_2⟩ : S66) (Kd.R_reads' (Kd.R_mono (ok' := (fun k_ => ((fun k_ => (w.heap.size ≤ k_) ∧ some k_ ≠ (v288 : Value).ownBlock ∧ k_ ≠ gb290)) k_ ∧ some k_ ≠ (u6 : Value).ownBlock)) (Kd.R_types (Kd.R_apart' (Kd.R_apart' (HO_291001.out) (Kd.N_typed HO_5.out) (by decide)) (Kd.N_typed HO_6.out) (by decide)) BK290.out (by decide)) (fun k_ hk => ⟨⟨hk.1.1.1.1, ⟨hk.1.1.2, hk.2⟩⟩, hk.1.2⟩))).2.1 (Kd.R_F (Kd.R_mono (ok' := (fun k_ => ((fun k_ => (w.heap.size ≤ k_) ∧ some k_ ≠ (v288 : Value).ownBlock ∧ k_ ≠ gb290)) k_ ∧ some k_ ≠ (u6 : Value).ownBlock)) (Kd.R_types (Kd.R_apart' (Kd.R_apart' (HO_291001.out) (Kd.N_typed HO_5.out) (by decide)) (Kd.N_typed HO_6.out) (by decide)) BK290.out (by decide)) (fun k_ hk => ⟨⟨hk.1.1.1.1, ⟨hk.1.1.2, hk.2⟩⟩, hk.1.2⟩))) (Kd.R_reads' (Kd.R_mono (ok' := (fun k_ => ((fun k_ => (w.heap.size ≤ k_) ∧ some k_ ≠ (v288 : Value).ownBlock ∧ k_ ≠ gb290)) k_ ∧ some k_ ≠ (u6 : Value).ownBlock)) (Kd.R_types (Kd.R_apart' (Kd.R_apart' (HO_291002.out) (Kd.N_typed HO_5.out) (by decide)) (Kd.N_typed HO_6.out) (by decide)) BK290.out (by decide)) (fun k_ hk => ⟨⟨hk.1.1.1.1, ⟨hk.1.1.2, hk.2⟩⟩, hk.1.2⟩))).2.1 (Kd.R_F (Kd.R_mono (ok' := (fun k_ => ((fun k_ => (w.heap.size ≤ k_) ∧ some k_ ≠ (v288 : Value).ownBlock ∧ k_ ≠ gb290)) k_ ∧ some k_ ≠ (u6 : Value).ownBlock)) (Kd.R_types (Kd.R_apart' (Kd.R_apart' (HO_291002.out) (Kd.N_typed HO_5.out) (by decide)) (Kd.N_typed HO_6.out) (by decide)) BK290.out (by decide)) (fun k_ hk => ⟨⟨hk.1.1.1.1, ⟨hk.1.1.2, hk.2⟩⟩, hk.1.2⟩))))); (case aB => exact (by repeat (first | (with_reducible first | exact HB.out | apply below_alloc | apply pw_below_drewN | apply below_drew1 | refine below_set ?_ GE290.out) | exact HB.out))); (case aF => exact (fun k_ hk => ⟨(Nat.le_trans (below_size (by repeat (first | (with_reducible first | exact HB.out | apply below_alloc | apply pw_below_drewN | apply below_drew1 | refine below_set ?_ GE290.out) | exact HB.out))) hk), Kd.fresh' (Kd.N_lt (by (with_reducible repeat (first | apply Kd.N_alloc | apply Kd.N_drewN | apply Kd.N_drew)); exact HO_5.out)) k_ hk, Kd.freshB (g := gb290) (o := .cells #[.int .i64 x291000_2, .slice Ao27 x291001_2.length co27, .slice Ao28 x291002_2.length co28] 66 (0, 0)) (by (with_reducible repeat (first | refine blk_drewN ?_ _ | refine blk_drew ?_ | refine blk_alloc ?_ _)); exact BK290.out) k_ hk⟩)); (case aO => exact (by (with_reducible repeat (first | apply Kd.N_alloc | apply Kd.N_drewN | apply Kd.N_drew)); exact Kd.N_mono HO_6.out (fun _ hk => ⟨hk.1, ⟨hk.2.1, hk.2.2.2.2⟩⟩))); (case aS => exact (below_size (by repeat (first | (with_reducible first | exact HB.out | apply below_alloc | apply pw_below_drewN | apply below_drew1 | refine below_set ?_ GE290.out) | exact HB.out)))); (case aL => have := LMc25.out; omega); intro v294 w29 ho hb hg hat; rw [← Ny293.out] at ho; have n0_ := Aside0.mk (Kd.N_afterv (ok := (fun k_ => (w.heap.size ≤ k_) ∧ some k_ ≠ (.slice Ao27 x291001_2.length co27 : Value).ownBlock ∧ some k_ ≠ (.slice Ao28 x291002_2.length co28 : Value).ownBlock ∧ k_ ≠ gb290)) (by (with_reducible repeat (first | apply Kd.N_alloc | apply Kd.N_drewN | apply Kd.N_drew)); exact Kd.N_mono HO_5.out (fun _ hk => ⟨⟨hk.1, ⟨hk.2.2.1, ⟨hk.2.2.2.1, hk.2.2.2.2⟩⟩⟩, hk.2.1⟩)) hg hat); have n1_ := Aside0.mk (blk_grown (g := gb290) (o := .cells #[.int .i64 x291000_2, .slice Ao27 x291001_2.length co27, .slice Ao28 x291002_2.length co28] 66 (0, 0)) (by (with_reducible repeat (first | refine blk_drewN ?_ _ | refine blk_drew ?_ | refine blk_alloc ?_ _)); exact BK290.out) hg (Kd.N_away HO_6.out (fun _ hk => hk.2.2.2.2))); have n2_ := Aside0.mk (hb); have n3_ := Aside0.mk (ho); clear HO_5; clear BK290; clear HB; clear HO_6; clear HO_291001; clear HO_291002; have HO_5 := n0_; have BK290 := n1_; have HB := n2_; have HO295 := n3_; clear n0_ n1_ n2_ n3_; clear ho hb hg hat; have hcz30_0 : w29.cell? ⟨gb290, 0, none⟩ = some (.int .i64 x291000_2) := (blk_cell BK290.out 0).trans rfl; have hcz30_1 : w29.cell? ⟨gb290, 1, none⟩ = some (.slice Ao27 x291001_2.length co27) := (blk_cell BK290.out 1).trans rfl; have hcz30_2 : w29.cell? ⟨gb290, 2, none⟩ = some (.slice Ao28 x291002_2.length co28) := (blk_cell BK290.out 2).trans rfl; have hfz30_0 := blk_frozen BK290.out 0; have hfz30_1 := blk_frozen BK290.out 1; have hfz30_2 := blk_frozen BK290.out 2))
              go_roundg kj14
              case measure => have := HJ2.out; have := HK2.out; have := HJ11.out; have := HJ14.out; omega
              case rel => exact ⟨(y293), (wrap64 (x8_2 + 1)), (wrap64 (x9_2 + 1)), (wrap64 (x8_2 + 1)), (([] : List ByteArray)), (([] : List ByteArray)), (.slice none 0 0), (.slice none 0 0), (by first | rfl | (simp; done) | (simp [*]; done)), (by first | rfl | (simp; done) | (simp [*]; done)), H', ⟨by have := HJ2.out; have := HK2.out; have := HJ11.out; have := HJ14.out; omega⟩, ⟨by (with_reducible repeat (first | apply Kd.N_alloc | apply Kd.N_drewN | apply Kd.N_drew)); exact Kd.N_mono (Kd.N_far (p := ⟨gb290, 2, none⟩) (Kd.N_far (p := ⟨gb290, 1, none⟩) (Kd.N_far (p := ⟨gb290, 0, none⟩) (Kd.N_mono HO_5.out (fun k_ hk => (⟨hk, hk.1.2.2.2⟩ : _ ∧ k_ ≠ gb290))) (fun _ hk => hk.2) (.int .i64 (wrap64 (x8_2 + 1)))) (fun _ hk => hk.2) (.slice none 0 0)) (fun _ hk => hk.2) (.slice none 0 0)) (fun _ hk => ⟨hk.1.1.1, ⟨hk.1.2, ⟨(by simp [Value.ownBlock]), ⟨(by simp [Value.ownBlock]), hk.1.1.2.2.2⟩⟩⟩⟩)⟩, ⟨by (with_reducible repeat (first | apply Kd.N_alloc | apply Kd.N_drewN | apply Kd.N_drew)); exact Kd.N_mono (Kd.N_far (p := ⟨gb290, 2, none⟩) (Kd.N_far (p := ⟨gb290, 1, none⟩) (Kd.N_far (p := ⟨gb290, 0, none⟩) (Kd.N_mono HO295.out (fun k_ hk => (⟨hk, hk.2.2⟩ : _ ∧ k_ ≠ gb290))) (fun _ hk => hk.2) (.int .i64 (wrap64 (x8_2 + 1)))) (fun _ hk => hk.2) (.slice none 0 0)) (fun _ hk => hk.2) (.slice none 0 0)) (fun _ hk => ⟨hk.1.1, ⟨hk.1.2.1, ⟨(by simp [Value.ownBlock]), ⟨(by simp [Value.ownBlock]), hk.1.2.2⟩⟩⟩⟩)⟩, ⟨by first | exact Kd.R_nil _ _ _ _ _ | exact Kd.N_nil _ _ _ _ _ | exact Kd.V_nil _ _ _ _ _ | exact Kd.Q_nil _ _ _ _ _ | exact Kd.S_nil _ _ _ _ _⟩, ⟨by first | exact Kd.R_nil _ _ _ _ _ | exact Kd.N_nil _ _ _ _ _ | exact Kd.V_nil _ _ _ _ _ | exact Kd.Q_nil _ _ _ _ _ | exact Kd.S_nil _ _ _ _ _⟩, ⟨by (with_reducible repeat (first | refine blk_drewN ?_ _ | refine blk_drew ?_ | refine blk_alloc ?_ _)); refine blk_put (cs := #[.int .i64 (wrap64 (x8_2 + 1)), .slice none 0 0, .slice Ao28 x291002_2.length co28]) ?_ 2 _ rfl; (with_reducible repeat (first | refine blk_drewN ?_ _ | refine blk_drew ?_ | refine blk_alloc ?_ _)); refine blk_put (cs := #[.int .i64 (wrap64 (x8_2 + 1)), .slice Ao27 x291001_2.length co27, .slice Ao28 x291002_2.length co28]) ?_ 1 _ rfl; (with_reducible repeat (first | refine blk_drewN ?_ _ | refine blk_drew ?_ | refine blk_alloc ?_ _)); refine blk_put (cs := #[.int .i64 x291000_2, .slice Ao27 x291001_2.length co27, .slice Ao28 x291002_2.length co28]) ?_ 0 _ rfl; (with_reducible repeat (first | refine blk_drewN ?_ _ | refine blk_drew ?_ | refine blk_alloc ?_ _)); exact BK290.out⟩, ⟨by repeat (first | (with_reducible first | exact HB.out | apply below_alloc | apply pw_below_drewN | apply below_drew1 | refine below_set ?_ GE290.out) | exact HB.out)⟩⟩
             ·rw [if_neg c25] at H
              exact absurd H (by simp)
            ·rw [if_neg c24] at H
             have c24b0 : decide (0 < (wrap64 ((x291001_2.length : Int) + (x291002_2.length : Int)))) = false := decide_eq_false c24
             clear c24
             have H' := Aside0.mk H
             clear H
             have hcz31_0 : wc.cell? ⟨gb290, 0, none⟩ = some (.int .i64 x291000_2) := (blk_cell BK290.out 0).trans rfl
             have hcz31_1 : wc.cell? ⟨gb290, 1, none⟩ = some (u291001) := (blk_cell BK290.out 1).trans rfl
             have hcz31_2 : wc.cell? ⟨gb290, 2, none⟩ = some (u291002) := (blk_cell BK290.out 2).trans rfl
             have hfz31_0 := blk_frozen BK290.out 0
             have hfz31_1 := blk_frozen BK290.out 1
             have hfz31_2 := blk_frozen BK290.out 2
             obtain ⟨Ao32, co32, eo32⟩ := Kd.R_slice HO_291001.out
             subst eo32
             obtain ⟨Ao33, co33, eo33⟩ := Kd.R_slice HO_291002.out
             subst eo33
             go_wp2
             go_roundg kj14
             case measure => have := HJ2.out; have := HK2.out; have := HJ11.out; have := HJ14.out; omega
             case rel => exact ⟨(x6_2), (wrap64 (x8_2 + 1)), (wrap64 (x9_2 + 1)), (wrap64 (x8_2 + 1)), (([] : List ByteArray)), (([] : List ByteArray)), (.slice none 0 0), (.slice none 0 0), (by first | rfl | (simp; done) | (simp [*]; done)), (by first | rfl | (simp; done) | (simp [*]; done)), H', ⟨by have := HJ2.out; have := HK2.out; have := HJ11.out; have := HJ14.out; omega⟩, ⟨by (with_reducible repeat (first | apply Kd.N_alloc | apply Kd.N_drewN | apply Kd.N_drew)); exact Kd.N_mono (Kd.N_far (p := ⟨gb290, 2, none⟩) (Kd.N_far (p := ⟨gb290, 1, none⟩) (Kd.N_far (p := ⟨gb290, 0, none⟩) (Kd.N_mono HO_5.out (fun k_ hk => (⟨hk, hk.2.2.2.2⟩ : _ ∧ k_ ≠ gb290))) (fun _ hk => hk.2) (.int .i64 (wrap64 (x8_2 + 1)))) (fun _ hk => hk.2) (.slice none 0 0)) (fun _ hk => hk.2) (.slice none 0 0)) (fun _ hk => ⟨hk.1.1, ⟨hk.1.2.1, ⟨(by simp [Value.ownBlock]), ⟨(by simp [Value.ownBlock]), hk.1.2.2.2.2⟩⟩⟩⟩)⟩, ⟨by (with_reducible repeat (first | apply Kd.N_alloc | apply Kd.N_drewN | apply Kd.N_drew)); exact Kd.N_mono (Kd.N_far (p := ⟨gb290, 2, none⟩) (Kd.N_far (p := ⟨gb290, 1, none⟩) (Kd.N_far (p := ⟨gb290, 0, none⟩) (Kd.N_mono HO_6.out (fun k_ hk => (⟨hk, hk.2.2.2.2⟩ : _ ∧ k_ ≠ gb290))) (fun _ hk => hk.2) (.int .i64 (wrap64 (x8_2 + 1)))) (fun _ hk => hk.2) (.slice none 0 0)) (fun _ hk => hk.2) (.slice none 0 0)) (fun _ hk => ⟨hk.1.1, ⟨hk.1.2.1, ⟨(by simp [Value.ownBlock]), ⟨(by simp [Value.ownBlock]), hk.1.2.2.2.2⟩⟩⟩⟩)⟩, ⟨by first | exact Kd.R_nil _ _ _ _ _ | exact Kd.N_nil _ _ _ _ _ | exact Kd.V_nil _ _ _ _ _ | exact Kd.Q_nil _ _ _ _ _ | exact Kd.S_nil _ _ _ _ _⟩, ⟨by first | exact Kd.R_nil _ _ _ _ _ | exact Kd.N_nil _ _ _ _ _ | exact Kd.V_nil _ _ _ _ _ | exact Kd.Q_nil _ _ _ _ _ | exact Kd.S_nil _ _ _ _ _⟩, ⟨by (with_reducible repeat (first | refine blk_drewN ?_ _ | refine blk_drew ?_ | refine blk_alloc ?_ _)); refine blk_put (cs := #[.int .i64 (wrap64 (x8_2 + 1)), .slice none 0 0, .slice Ao33 x291002_2.length co33]) ?_ 2 _ rfl; (with_reducible repeat (first | refine blk_drewN ?_ _ | refine blk_drew ?_ | refine blk_alloc ?_ _)); refine blk_put (cs := #[.int .i64 (wrap64 (x8_2 + 1)), .slice Ao32 x291001_2.length co32, .slice Ao33 x291002_2.length co33]) ?_ 1 _ rfl; (with_reducible repeat (first | refine blk_drewN ?_ _ | refine blk_drew ?_ | refine blk_alloc ?_ _)); refine blk_put (cs := #[.int .i64 x291000_2, .slice Ao32 x291001_2.length co32, .slice Ao33 x291002_2.length co33]) ?_ 0 _ rfl; (with_reducible repeat (first | refine blk_drewN ?_ _ | refine blk_drew ?_ | refine blk_alloc ?_ _)); exact BK290.out⟩, ⟨by repeat (first | (with_reducible first | exact HB.out | apply below_alloc | apply pw_below_drewN | apply below_drew1 | refine below_set ?_ GE290.out) | exact HB.out)⟩⟩
           ·replace c23 := Bool.eq_false_iff.mpr c23
            subst c23
            have H1 : (if x9_2 = (l1.length : Int) then (rafterref04_Hunks.j4 kj14 l0 l1 t287 x6_2 x8_2 x9_2 true x291000_2 x291001_2 x291002_2) else (if x8_2 < (l0.length : Int) then (if 0 ≤ (wrap64 ((wrap64 ((l0.length : Int) - x8_2)) - 1)) then (if (wrap64 ((wrap64 ((l0.length : Int) - x8_2)) - 1)) < (t287.length : Int) then (if 0 ≤ x9_2 then (if x9_2 < ((rd_L4 t287 (wrap64 ((wrap64 ((l0.length : Int) - x8_2)) - 1))).length : Int) then (if 0 ≤ (wrap64 ((l0.length : Int) - x8_2)) then (if (wrap64 ((l0.length : Int) - x8_2)) < (t287.length : Int) then (if 0 ≤ (wrap64 (x9_2 + 1)) then (if (wrap64 (x9_2 + 1)) < ((rd_L4 t287 (wrap64 ((l0.length : Int) - x8_2))).length : Int) then (rafterref04_Hunks.j4 kj14 l0 l1 t287 x6_2 x8_2 x9_2 (decide ((rd (rd_L4 t287 (wrap64 ((wrap64 ((l0.length : Int) - x8_2)) - 1))) x9_2) ≥ (rd (rd_L4 t287 (wrap64 ((l0.length : Int) - x8_2))) (wrap64 (x9_2 + 1))))) x291000_2 x291001_2 x291002_2) else (none)) else (none)) else (none)) else (none)) else (none)) else (none)) else (none)) else (none)) else (rafterref04_Hunks.j4 kj14 l0 l1 t287 x6_2 x8_2 x9_2 false x291000_2 x291001_2 x291002_2))) = some r := by rw [if_neg (show ¬ (false = true) by decide)] at H; exact H
            clear H
            have H := H1
            clear H1
            have HC34 := Aside0.mk H
            clear H
            go_upto_if 78 with (fail)
            go_cut [10] (fun v10 wc => ∃ (kq : Nat) (x10_33 : Bool), v10 = .bool x10_33 ∧ Aside0 (rafterref04_Hunks.j4 kq l0 l1 t287 x6_2 x8_2 x9_2 x10_33 x291000_2 x291001_2 x291002_2 = some r) ∧ Aside0 (kq ≤ kj14) ∧ Aside0 (Kd.N (Kd.slice 3 (Kd.int .i64)) 33 wc w.heap.size (fun k_ => (w.heap.size ≤ k_) ∧ some k_ ≠ (u6 : Value).ownBlock ∧ some k_ ≠ (u291001 : Value).ownBlock ∧ some k_ ≠ (u291002 : Value).ownBlock ∧ k_ ≠ gb290) v288 t287) ∧ Aside0 (Kd.N k66 66 wc w.heap.size (fun k_ => (w.heap.size ≤ k_) ∧ some k_ ≠ (v288 : Value).ownBlock ∧ some k_ ≠ (u291001 : Value).ownBlock ∧ some k_ ≠ (u291002 : Value).ownBlock ∧ k_ ≠ gb290) u6 x6_2) ∧ Aside0 (Kd.R Kd.string 9 wc w.heap.size (fun k_ => (w.heap.size ≤ k_) ∧ some k_ ≠ (u291002 : Value).ownBlock) u291001 x291001_2) ∧ Aside0 (Kd.R Kd.string 9 wc w.heap.size (fun k_ => (w.heap.size ≤ k_) ∧ some k_ ≠ (u291001 : Value).ownBlock) u291002 x291002_2) ∧ Aside0 (wc.heap[gb290]? = some (.cells #[.int .i64 x291000_2, u291001, u291002] 66 (0, 0))) ∧ Aside0 (Below w.heap.size w wc))
            case first =>
             have H := HC34.out
             clear HC34
             by_cases c35 : x9_2 = (l1.length : Int)
             ·rw [if_pos c35] at H
              have c35b0 : (x9_2 == (l1.length : Int)) = true := beq_iff_eq.mpr c35
              have c35b1 : (x9_2 != (l1.length : Int)) = false := bne_eq_false_iff_eq.mpr c35
              clear c35
              (first | rw [c35b0] | (simp only [i64_w, i32_w]; rw [c35b0]) | skip)
              have H' := Aside0.mk H
              clear H
              go_wp2
              go_meet
              case rel => exact ⟨_, (true), (by first | rfl | (simp; done) | (simp [*]; done)), H', ⟨by have := HJ2.out; have := HK2.out; have := HJ11.out; have := HJ14.out; first | omega | exact Nat.le_refl _⟩, ⟨by (with_reducible repeat (first | apply Kd.N_alloc | apply Kd.N_drewN | apply Kd.N_drew)); exact HO_5.out⟩, ⟨by (with_reducible repeat (first | apply Kd.N_alloc | apply Kd.N_drewN | apply Kd.N_drew)); exact HO_6.out⟩, ⟨by (with_reducible repeat (first | apply Kd.R_alloc | apply Kd.R_drewN | apply Kd.R_drew)); exact HO_291001.out⟩, ⟨by (with_reducible repeat (first | apply Kd.R_alloc | apply Kd.R_drewN | apply Kd.R_drew)); exact HO_291002.out⟩, ⟨by (with_reducible repeat (first | refine blk_drewN ?_ _ | refine blk_drew ?_ | refine blk_alloc ?_ _)); exact BK290.out⟩, ⟨by repeat (first | (with_reducible first | exact HB.out | apply below_alloc | apply pw_below_drewN | apply below_drew1 | refine below_set ?_ GE290.out) | exact HB.out)⟩⟩
             ·rw [if_neg c35] at H
              have c35b0 : (x9_2 == (l1.length : Int)) = false := beq_eq_false_iff_ne.mpr c35
              have c35b1 : (x9_2 != (l1.length : Int)) = true := bne_iff_ne.mpr c35
              (first | rw [c35b0] | (simp only [i64_w, i32_w]; rw [c35b0]) | skip)
              by_cases c36 : x8_2 < (l0.length : Int)
              ·rw [if_pos c36] at H
               have c36b0 : decide (x8_2 < (l0.length : Int)) = true := decide_eq_true c36
               clear c36
               obtain ⟨ji37, hji37⟩ : ∃ j_ : Int, (wrap64 ((wrap64 ((l0.length : Int) - x8_2)) - 1)) = j_ := ⟨_, rfl⟩
               replace H : (if 0 ≤ (ji37) then (if (ji37) < (t287.length : Int) then (if 0 ≤ x9_2 then (if x9_2 < ((rd_L4 t287 (ji37)).length : Int) then (if 0 ≤ (wrap64 ((l0.length : Int) - x8_2)) then (if (wrap64 ((l0.length : Int) - x8_2)) < (t287.length : Int) then (if 0 ≤ (wrap64 (x9_2 + 1)) then (if (wrap64 (x9_2 + 1)) < ((rd_L4 t287 (wrap64 ((l0.length : Int) - x8_2))).length : Int) then (rafterref04_Hunks.j4 kj14 l0 l1 t287 x6_2 x8_2 x9_2 (decide ((rd (rd_L4 t287 (ji37)) x9_2) ≥ (rd (rd_L4 t287 (wrap64 ((l0.length : Int) - x8_2))) (wrap64 (x9_2 + 1))))) x291000_2 x291001_2 x291002_2) else (none)) else (none)) else (none)) else (none)) else (none)) else (none)) else (none)) else (none)) = some r := by first | (rw [hji37] at H; exact H) | (simp only [hji37] at H ⊢; exact H)
               have hji37w : (IntKind.i64.wrap ((wrap64 ((l0.length : Int) - x8_2)) - 1)) = ji37 := (i64_w _).trans hji37
               by_cases c38 : 0 ≤ (ji37)
               ·rw [if_pos c38] at H
                have c38b0 : decide (0 ≤ (ji37)) = true := decide_eq_true c38
                clear c38
                by_cases c39 : (ji37) < (t287.length : Int)
                ·rw [if_pos c39] at H
                 have c39b0 : decide ((ji37) < (t287.length : Int)) = true := decide_eq_true c39
                 clear c39
                 by_cases c40 : 0 ≤ x9_2
                 ·rw [if_pos c40] at H
                  have c40b0 : decide (0 ≤ x9_2) = true := decide_eq_true c40
                  clear c40
                  by_cases c41 : x9_2 < ((rd_L4 t287 (ji37)).length : Int)
                  ·rw [if_pos c41] at H
                   have c41b0 : decide (x9_2 < ((rd_L4 t287 (ji37)).length : Int)) = true := decide_eq_true c41
                   clear c41
                   obtain ⟨ji42, hji42⟩ : ∃ j_ : Int, (wrap64 ((l0.length : Int) - x8_2)) = j_ := ⟨_, rfl⟩
                   replace H : (if 0 ≤ (ji42) then (if (ji42) < (t287.length : Int) then (if 0 ≤ (wrap64 (x9_2 + 1)) then (if (wrap64 (x9_2 + 1)) < ((rd_L4 t287 (ji42)).length : Int) then (rafterref04_Hunks.j4 kj14 l0 l1 t287 x6_2 x8_2 x9_2 (decide ((rd (rd_L4 t287 (ji37)) x9_2) ≥ (rd (rd_L4 t287 (ji42)) (wrap64 (x9_2 + 1))))) x291000_2 x291001_2 x291002_2) else (none)) else (none)) else (none)) else (none)) = some r := by first | (rw [hji42] at H; exact H) | (simp only [hji42] at H ⊢; exact H)
                   have hji42w : (IntKind.i64.wrap ((l0.length : Int) - x8_2)) = ji42 := (i64_w _).trans hji42
                   (try (have hji37nji42 := hji37; rw [hji42] at hji37nji42))
                   (try (have hji37vji42 := hji37w; rw [hji42] at hji37vji42))
                   by_cases c43 : 0 ≤ (ji42)
                   ·rw [if_pos c43] at H
                    have c43b0 : decide (0 ≤ (ji42)) = true := decide_eq_true c43
                    clear c43
                    by_cases c44 : (ji42) < (t287.length : Int)
                    ·rw [if_pos c44] at H
                     have c44b0 : decide ((ji42) < (t287.length : Int)) = true := decide_eq_true c44
                     clear c44
                     obtain ⟨ji45, hji45⟩ : ∃ j_ : Int, (wrap64 (x9_2 + 1)) = j_ := ⟨_, rfl⟩
                     replace H : (if 0 ≤ (ji45) then (if (ji45) < ((rd_L4 t287 (ji42)).length : Int) then (rafterref04_Hunks.j4 kj14 l0 l1 t287 x6_2 x8_2 x9_2 (decide ((rd (rd_L4 t287 (ji37)) x9_2) ≥ (rd (rd_L4 t287 (ji42)) (ji45)))) x291000_2 x291001_2 x291002_2) else (none)) else (none)) = some r := by first | (rw [hji45] at H; exact H) | (simp only [hji45] at H ⊢; exact H)
                     have hji45w : (IntKind.i64.wrap (x9_2 + 1)) = ji45 := (i64_w _).trans hji45
                     by_cases c46 : 0 ≤ (ji45)
                     ·rw [if_pos c46] at H
                      have c46b0 : decide (0 ≤ (ji45)) = true := decide_eq_true c46
                      clear c46
                      by_cases c47 : (ji45) < ((rd_L4 t287 (ji42)).length : Int)
                      ·rw [if_pos c47] at H
                       have c47b0 : decide ((ji45) < ((rd_L4 t287 (ji42)).length : Int)) = true := decide_eq_true c47
                       clear c47
                       have H' := Aside0.mk H
                       clear H
                       try go_wp2
                       have n0_ := Aside0.mk (Kd.N_drew HO_5.out)
                       have n1_ := Aside0.mk (Kd.N_drew HO_6.out)
                       have n2_ := Aside0.mk (Kd.R_drew HO_291001.out)
                       have n3_ := Aside0.mk (Kd.R_drew HO_291002.out)
                       have n4_ := Aside0.mk (blk_drew BK290.out)
                       have n5_ := Aside0.mk (below_drew1 HB.out)
                       clear HO_5
                       clear HO_6
                       clear HO_291001
                       clear HO_291002
                       clear BK290
                       clear HB
                       have HO_5 := n0_
                       have HO_6 := n1_
                       have HO_291001 := n2_
                       have HO_291002 := n3_
                       have BK290 := n4_
                       have HB := n5_
                       clear n0_ n1_ n2_ n3_ n4_ n5_
                       obtain ⟨Ao49, co49, eo49⟩ := Kd.N_slice HO_5.out
                       (first | subst eo49 | (injection eo49 with f1_ f2_ f3_; have f4_ := f1_.symm; have f5_ := f3_.symm; clear f1_ f2_ f3_; subst f4_; subst f5_))
                       have p296 : 0 ≤ ((ji37) : Int) := of_decide_eq_true (by first | (with_reducible assumption) | assumption)
                       have q296 : (ji37) < (t287.length : Int) := of_decide_eq_true (by first | (with_reducible assumption) | assumption)
                       obtain ⟨ad296, A296_0, c296_0, e296, hx296_0, hl296_0, hi296_0⟩ := at_L4 (Kd.N_reads' HO_5.out).2.2 (ji37) p296 q296
                       cases e296
                       obtain ⟨ce296, hce296, hMe296, hcc296⟩ := Kd.N_get HO_5.out [] (ji37) p296 (by first | exact q296 | exact of_decide_eq_true (by first | (with_reducible assumption) | assumption) | (have e_ := (Kd.N_reads' HO_5.out).1; omega))
                       obtain ⟨ua296_0, uc296_0, rfl, ul296_0, ge296_0⟩ := Kd.FK_slice_open hMe296
                       have hv296_0 := hcc296 0 _ rfl
                       rw [Nat.add_zero, show ((Kd.slice 3 (Kd.int .i64))).sz = 1 from rfl, Nat.mul_one] at hv296_0
                       replace hv296_0 := Option.some.inj (hv296_0.symm.trans hx296_0)
                       injection hv296_0 with hva_ hvn_ hvc_
                       rw [hva_] at ge296_0
                       rw [hvc_] at ul296_0
                       have HL296_0 := Aside0.mk (show Kd.V (Kd.int .i64) 3 _ w.heap.size _ _ (rd_L4 t287 (ji37)) from Kd.V_mk ul296_0 ge296_0)
                       clear hva_ hvn_ hvc_ ge296_0 ul296_0
                       clear hcc296 hce296
                       have HR296_0 := Aside0.mk hi296_0
                       have HC296_0 := Aside0.mk hl296_0
                       clear hi296_0 hl296_0
                       replace p296 := eq_true p296
                       replace q296 := eq_true q296
                       have p297 : 0 ≤ (x9_2 : Int) := of_decide_eq_true (by first | (with_reducible assumption) | assumption)
                       have q297 : x9_2 < ((rd_L4 t287 (ji37)).length : Int) := of_decide_eq_true (by first | (with_reducible assumption) | assumption)
                       obtain ⟨ad297, e297, hx297_0⟩ := Kd.at_int (by repeat (first | (with_reducible exact HR296_0.out) | (with_reducible refine Kd.C_alloc ?_ _) | (with_reducible refine Kd.C_drewN ?_ _) | (with_reducible refine Kd.C_drew ?_) | exact HR296_0.out)) x9_2 p297 q297
                       cases e297
                       replace p297 := eq_true p297
                       replace q297 := eq_true q297
                       have p298 : 0 ≤ ((ji42) : Int) := of_decide_eq_true (by first | (with_reducible assumption) | assumption)
                       have q298 : (ji42) < (t287.length : Int) := of_decide_eq_true (by first | (with_reducible assumption) | assumption)
                       obtain ⟨ad298, A298_0, c298_0, e298, hx298_0, hl298_0, hi298_0⟩ := at_L4 (Kd.N_reads' HO_5.out).2.2 (ji42) p298 q298
                       obtain rfl : ad296 = ad298 := (by injection e298)
                       obtain ⟨ce298, hce298, hMe298, hcc298⟩ := Kd.N_get HO_5.out [] (ji42) p298 (by first | exact q298 | exact of_decide_eq_true (by first | (with_reducible assumption) | assumption) | (have e_ := (Kd.N_reads' HO_5.out).1; omega))
                       obtain ⟨ua298_0, uc298_0, rfl, ul298_0, ge298_0⟩ := Kd.FK_slice_open hMe298
                       have hv298_0 := hcc298 0 _ rfl
                       rw [Nat.add_zero, show ((Kd.slice 3 (Kd.int .i64))).sz = 1 from rfl, Nat.mul_one] at hv298_0
                       replace hv298_0 := Option.some.inj (hv298_0.symm.trans hx298_0)
                       injection hv298_0 with hva_ hvn_ hvc_
                       rw [hva_] at ge298_0
                       rw [hvc_] at ul298_0
                       have HL298_0 := Aside0.mk (show Kd.V (Kd.int .i64) 3 _ w.heap.size _ _ (rd_L4 t287 (ji42)) from Kd.V_mk ul298_0 ge298_0)
                       clear hva_ hvn_ hvc_ ge298_0 ul298_0
                       clear hcc298 hce298
                       have HR298_0 := Aside0.mk hi298_0
                       have HC298_0 := Aside0.mk hl298_0
                       clear hi298_0 hl298_0
                       replace p298 := eq_true p298
                       replace q298 := eq_true q298
                       have p299 : 0 ≤ ((ji45) : Int) := of_decide_eq_true (by first | (with_reducible assumption) | assumption)
                       have q299 : (ji45) < ((rd_L4 t287 (ji42)).length : Int) := of_decide_eq_true (by first | (with_reducible assumption) | assumption)
                       obtain ⟨ad299, e299, hx299_0⟩ := Kd.at_int (by repeat (first | (with_reducible exact HR298_0.out) | (with_reducible refine Kd.C_alloc ?_ _) | (with_reducible refine Kd.C_drewN ?_ _) | (with_reducible refine Kd.C_drew ?_) | exact HR298_0.out)) (ji45) p299 q299
                       cases e299
                       replace p299 := eq_true p299
                       replace q299 := eq_true q299
                       refine start_ (n := 24) (S := fun w' => w'.cell? (ad296.add ((ji37)).toNat) = some (.slice (some ad297) (rd_L4 t287 (ji37)).length c296_0) ∧ w'.cell? (ad297.add (x9_2).toNat) = some (.int .i64 (rd (rd_L4 t287 (ji37)) x9_2)) ∧ w'.cell? (ad296.add ((ji42)).toNat) = some (.slice (some ad299) (rd_L4 t287 (ji42)).length c298_0) ∧ w'.cell? (ad299.add ((ji45)).toNat) = some (.int .i64 (rd (rd_L4 t287 (ji42)) (ji45)))) (ds := []) #[false, false, false, false, false, false, false, false, false, false, false, false, false, false, false, false, false, false, false, false, false, false, false, false] (by kernel_rfl) rfl rfl ⟨hx296_0, hx297_0, hx298_0, hx299_0⟩ (fun hHeld => ?_); refine with_tabW rafterref04_Hunks.tab19 rafterref04_Hunks.bits19 (fun HT_ HW_ => ?_)
                       generalize wc.drew = w48 at HO_5 HO_6 HO_291001 HO_291002 BK290 HB HL296_0 HL298_0 HR296_0 HR298_0 hx296_0 hx297_0 hx298_0 hx299_0 hHeld ⊢
                       refine pq_ 0 (some 83) HT_ ?_; refine pq_ 1 (some 84) HT_ ?_; refine pq_ 2 (some 85) HT_ ?_; refine pq_ 3 (some 86) HT_ ?_; refine pq_ 4 (some 87) HT_ ?_; refine pq_ 5 (some 88) HT_ ?_; refine pq_ 6 (some 89) HT_ ?_; refine pq_ 8 (some 91) HT_ ?_; refine pq_ 11 (some 94) HT_ ?_; refine pq_ 12 (some 95) HT_ ?_; refine pq_ 13 (some 96) HT_ ?_; refine pq_ 14 (some 97) HT_ ?_
                       refine pq_ 15 (some 98) HT_ ?_; refine pq_ 16 (some 99) HT_ ?_; refine pq_ 18 (some 101) HT_ ?_; refine pq_ 19 (some 102) HT_ ?_; refine tq_ 7 (some 90) HT_ HW_ hHeld ?_; refine pq_ 9 (some 92) HT_ ?_; refine tq_ 10 (some 93) HT_ HW_ hHeld ?_; refine tq_ 17 (some 100) HT_ HW_ hHeld ?_; refine pq_ 20 (some 103) HT_ ?_; refine tq_ 21 (some 104) HT_ HW_ hHeld ?_
                       refine pq_ 22 (some 105) HT_ ?_; refine pq_ 23 (some 10) HT_ ?_
                       refine done_ (done_of HT_.out (by kernel_rfl)) ?_
                       try go_wp2
                       go_meet
                       case rel => exact ⟨_, (decide ((rd (rd_L4 t287 (ji37)) x9_2) ≥ (rd (rd_L4 t287 (ji42)) (ji45)))), (by first | rfl | (simp; done) | (simp only [← hji37, ← hji42, ← hji45] <;> (first | rfl | simp)) | (simp [*]; done)), H', ⟨by have := HJ2.out; have := HK2.out; have := HJ11.out; have := HJ14.out; first | omega | exact Nat.le_refl _⟩, ⟨by (with_reducible repeat (first | apply Kd.N_alloc | apply Kd.N_drewN | apply Kd.N_drew)); exact HO_5.out⟩, ⟨by (with_reducible repeat (first | apply Kd.N_alloc | apply Kd.N_drewN | apply Kd.N_drew)); exact HO_6.out⟩, ⟨by (with_reducible repeat (first | apply Kd.R_alloc | apply Kd.R_drewN | apply Kd.R_drew)); exact HO_291001.out⟩, ⟨by (with_reducible repeat (first | apply Kd.R_alloc | apply Kd.R_drewN | apply Kd.R_drew)); exact HO_291002.out⟩, ⟨by (with_reducible repeat (first | refine blk_drewN ?_ _ | refine blk_drew ?_ | refine blk_alloc ?_ _)); exact BK290.out⟩, ⟨by repeat (first | (with_reducible first | exact HB.out | apply below_alloc | apply pw_below_drewN | apply below_drew1 | refine below_set ?_ GE290.out) | exact HB.out)⟩⟩
                      ·rw [if_neg c47] at H
                       exact absurd H (by simp)
                     ·rw [if_neg c46] at H
                      exact absurd H (by simp)
                    ·rw [if_neg c44] at H
                     exact absurd H (by simp)
                   ·rw [if_neg c43] at H
                    exact absurd H (by simp)
                  ·rw [if_neg c41] at H
                   exact absurd H (by simp)
                 ·rw [if_neg c40] at H
                  exact absurd H (by simp)
                ·rw [if_neg c39] at H
                 exact absurd H (by simp)
               ·rw [if_neg c38] at H
                exact absurd H (by simp)
              ·rw [if_neg c36] at H
               have c36b0 : decide (x8_2 < (l0.length : Int)) = false := decide_eq_false c36
               clear c36
               have H' := Aside0.mk H
               clear H
               go_wp2
               go_meet
               case rel => exact ⟨_, (false), (by first | rfl | (simp; done) | (simp [*]; done)), H', ⟨by have := HJ2.out; have := HK2.out; have := HJ11.out; have := HJ14.out; first | omega | exact Nat.le_refl _⟩, ⟨by (with_reducible repeat (first | apply Kd.N_alloc | apply Kd.N_drewN | apply Kd.N_drew)); exact HO_5.out⟩, ⟨by (with_reducible repeat (first | apply Kd.N_alloc | apply Kd.N_drewN | apply Kd.N_drew)); exact HO_6.out⟩, ⟨by (with_reducible repeat (first | apply Kd.R_alloc | apply Kd.R_drewN | apply Kd.R_drew)); exact HO_291001.out⟩, ⟨by (with_reducible repeat (first | apply Kd.R_alloc | apply Kd.R_drewN | apply Kd.R_drew)); exact HO_291002.out⟩, ⟨by (with_reducible repeat (first | refine blk_drewN ?_ _ | refine blk_drew ?_ | refine blk_alloc ?_ _)); exact BK290.out⟩, ⟨by repeat (first | (with_reducible first | exact HB.out | apply below_alloc | apply pw_below_drewN | apply below_drew1 | refine below_set ?_ GE290.out) | exact HB.out)⟩⟩
            case rest =>
             clear HC34
             try clear c1
             try clear c2
             try clear p2
             try clear q2
             try clear hx2
             try clear c3
             try clear c4
             try clear c4b0
             try clear c4b1
             try clear c5
             try clear p6
             try clear c13
             try clear c13b0
             try clear c14
             try clear c16
             try clear c16b0
             try clear c17
             try clear c17b0
             try clear c18
             try clear c18b0
             try clear c19
             try clear c19b0
             try clear c23
             try clear c24
             try clear c24b0
             try clear c25
             try clear c29
             try clear p29
             try clear q29
             try clear hx29
             try clear c35
             try clear c35b0
             try clear c35b1
             try clear c36
             try clear c36b0
             try clear c38
             try clear c38b0
             try clear c39
             try clear c39b0
             try clear c40
             try clear c40b0
             try clear c41
             try clear c41b0
             try clear c43
             try clear c43b0
             try clear c44
             try clear c44b0
             try clear c46
             try clear c46b0
             try clear c47
             try clear c47b0
             try clear hcz11_0
             try clear hcz11_1
             try clear hcz11_2
             try clear hcz26_0
             try clear hcz26_1
             try clear hcz26_2
             try clear hcz30_0
             try clear hcz30_1
             try clear hcz30_2
             try clear hcz31_0
             try clear hcz31_1
             try clear hcz31_2
             try clear hfz11_0
             try clear hfz11_1
             try clear hfz11_2
             try clear hfz26_0
             try clear hfz26_1
             try clear hfz26_2
             try clear hfz30_0
             try clear hfz30_1
             try clear hfz30_2
             try clear hfz31_0
             try clear hfz31_1
             try clear hfz31_2
             try clear hx291_0
             try clear hx292_0
             try clear hx296_0
             try clear hx297_0
             try clear hx298_0
             try clear hx299_0
             try clear p2
             try clear p291
             try clear p292
             try clear p296
             try clear p297
             try clear p298
             try clear p299
             try clear q2
             try clear q291
             try clear q292
             try clear q296
             try clear q297
             try clear q298
             try clear q299
             obtain ⟨kq, x10_33, rfl, HA, HJ33, HO_5, HO_6, HO_291001, HO_291002, BK290, HB⟩ := hcut
             cases kq with
             | zero => exact absurd HA.out (by simp [rafterref04_Hunks.j4])
             | succ kj33 =>
              have H := HA.out
              clear HA
              simp only [rafterref04_Hunks.j4] at H
              by_cases c50 : x10_33 = true
              ·subst c50
               have H1 : (if 0 ≤ x8_2 then (if x8_2 < (l0.length : Int) then (if x291001_2.length < 8796093022208 then (rafterref04_Hunks.l0 kj33 l0 l1 t287 x6_2 (wrap64 (x8_2 + 1)) x9_2 x291000_2 (x291001_2 ++ [rdOf ByteArray.empty l0 x8_2]) x291002_2) else (none)) else (none)) else (none)) = some r := by rw [if_pos rfl] at H; exact H
               clear H
               have H := H1
               clear H1
               by_cases c51 : 0 ≤ x8_2
               ·rw [if_pos c51] at H
                have c51b0 : decide (0 ≤ x8_2) = true := decide_eq_true c51
                clear c51
                by_cases c52 : x8_2 < (l0.length : Int)
                ·rw [if_pos c52] at H
                 have c52b0 : decide (x8_2 < (l0.length : Int)) = true := decide_eq_true c52
                 clear c52
                 by_cases c53 : x291001_2.length < 8796093022208
                 ·rw [if_pos c53] at H
                  have LMc53 := Aside0.mk c53
                  clear c53
                  obtain ⟨y301, hy301⟩ : ∃ y_ : List ByteArray, y_ = (x291001_2 ++ [rdOf ByteArray.empty l0 x8_2]) := ⟨_, rfl⟩
                  replace H : (rafterref04_Hunks.l0 kj33 l0 l1 t287 x6_2 (wrap64 (x8_2 + 1)) x9_2 x291000_2 y301 x291002_2) = some r := by first | (rw [hy301]; with_reducible exact H) | (have H2_ := (Option.bind_some _ _).symm.trans H; rw [hy301]; with_reducible exact H2_) | (have H2_ := (Option.bind_some _ _).symm.trans H; with_reducible exact H2_) | with_reducible exact H | (rw [hy301]; exact H) | exact H
                  have Ny301 := Aside0.mk hy301
                  clear hy301
                  have H' := Aside0.mk H
                  clear H
                  try go_wp2
                  have n0_ := Aside0.mk (Kd.N_drew HO_5.out)
                  have n1_ := Aside0.mk (Kd.N_drew HO_6.out)
                  have n2_ := Aside0.mk (Kd.R_drew HO_291001.out)
                  have n3_ := Aside0.mk (Kd.R_drew HO_291002.out)
                  have n4_ := Aside0.mk (blk_drew BK290.out)
                  have n5_ := Aside0.mk (below_drew1 HB.out)
                  clear HO_5
                  clear HO_6
                  clear HO_291001
                  clear HO_291002
                  clear BK290
                  clear HB
                  have HO_5 := n0_
                  have HO_6 := n1_
                  have HO_291001 := n2_
                  have HO_291002 := n3_
                  have BK290 := n4_
                  have HB := n5_
                  clear n0_ n1_ n2_ n3_ n4_ n5_
                  have p300 : 0 ≤ (x8_2 : Int) := of_decide_eq_true (by first | (with_reducible assumption) | assumption)
                  have q300 : x8_2 < (l0.length : Int) := of_decide_eq_true (by first | (with_reducible assumption) | assumption)
                  obtain ⟨ad300, e300, hx300_0⟩ := Kd.at_string HR0.out x8_2 p300 q300
                  have hw300_0 := hx300_0
                  cases e300
                  replace hx300_0 := (HB.out.cell (World.block_lt_of_cell? w _ hx300_0)).trans hx300_0
                  replace p300 := eq_true p300
                  replace q300 := eq_true q300
                  refine start_ (n := 10) (S := fun w' => w'.cell? ⟨gb290, 0, none⟩ = some (.int .i64 x291000_2) ∧ w'.cell? ⟨gb290, 1, none⟩ = some (u291001) ∧ w'.cell? ⟨gb290, 2, none⟩ = some (u291002) ∧ w'.cell? (ad300.add (x8_2).toNat) = some (.string (rdOf ByteArray.empty l0 x8_2))) (ds := [9]) #[false, false, false, false, false, false, false, false, false, false] (by kernel_rfl) rfl rfl ⟨(blk_cell BK290.out 0).trans rfl, (blk_cell BK290.out 1).trans rfl, (blk_cell BK290.out 2).trans rfl, ((HB.out.cell (World.block_lt_of_cell? w _ hw300_0)).trans hw300_0)⟩ (fun hHeld => ?_); refine with_tabW rafterref04_Hunks.tab21 rafterref04_Hunks.bits21 (fun HT_ HW_ => ?_)
                  generalize wc.drew = w54 at HO_5 HO_6 HO_291001 HO_291002 BK290 HB hx300_0 hHeld ⊢
                  refine pq_ 0 (some 107) HT_ ?_; refine pq_ 2 (some 109) HT_ ?_; refine pq_ 3 (some 110) HT_ ?_; refine pq_ 4 (some 111) HT_ ?_; refine tq_ 1 (some 108) HT_ HW_ hHeld ?_; refine tq_ 5 (some 112) HT_ HW_ hHeld ?_
                  refine one_ (i := 6) (N := some 113) #[true, true, true, true, true, true, true, false, false, false] rfl rfl (one_of HT_.out (by kernel_rfl)) (by decide) (fun K hK => ?_)
                  refine value_ (w1 := ?_) (v := ?_) (by rfl) rfl ?_ ?_
                  rotate_left 2
                  ·go_simp
                   constructor
                   ·rfl
                   ·rfl
                  refine hK.out _ _ ⟨(blk_cell (blk_alloc BK290.out _) 0).trans rfl, (blk_cell (blk_alloc BK290.out _) 1).trans rfl, (blk_cell (blk_alloc BK290.out _) 2).trans rfl, (World.cell?_alloc_lt _ _ _ (World.block_lt_of_cell? _ _ (((HB.out.cell (World.block_lt_of_cell? w _ hw300_0)).trans hw300_0)))).trans (((HB.out.cell (World.block_lt_of_cell? w _ hw300_0)).trans hw300_0))⟩ (fun hHeld => ?_)
                  clear hK K
                  refine norm_ (a' := ?_) ?_ ?_
                  rotate_left
                  ·show Act.put _ (some 113) _ = _
                   simp only [Act.put, List.setIfInBounds_toArray, List.set_cons_zero, List.set_cons_succ, i64_w, i32_w]
                   rfl
                  refine one_ (i := 7) (N := some 114) #[true, true, true, true, true, true, true, true, false, false] rfl rfl (one_of HT_.out (by kernel_rfl)) (by decide) (fun K hK => ?_)
                  refine Kd.R_append_step Kd.string (w0 := w) w.heap.size (by rfl) (.tmp 108) (.tmp 113) 22 9 (.string ⟨#[]⟩) 16 rfl Try.underlying22 info9 rfl (by decide) (by omega) u291001 x291001_2 (rdOf ByteArray.empty l0 x8_2) [.string (rdOf ByteArray.empty l0 x8_2)] (fun k_ => (w.heap.size ≤ k_) ∧ some k_ ≠ (u291002 : Value).ownBlock) (fun _ => False) rfl rfl ?aP (fun _ hk => hk.elim) ?aF ?aO ?aB ?aS ?aL ?_
                  (case aP => exact rfl)
                  (case aB => exact (by repeat (first | (with_reducible first | exact HB.out | apply below_alloc | apply pw_below_drewN | apply below_drew1 | refine below_set ?_ GE290.out) | exact HB.out)))
                  (case aF => exact (fun k_ hk => ⟨(Nat.le_trans (below_size (by repeat (first | (with_reducible first | exact HB.out | apply below_alloc | apply pw_below_drewN | apply below_drew1 | refine below_set ?_ GE290.out) | exact HB.out))) hk), Kd.fresh' (Kd.R_lt (by (with_reducible repeat (first | apply Kd.R_alloc | apply Kd.R_drewN | apply Kd.R_drew)); exact HO_291002.out)) k_ hk⟩))
                  (case aO => exact (by (with_reducible repeat (first | apply Kd.R_alloc | apply Kd.R_drewN | apply Kd.R_drew)); exact HO_291001.out))
                  (case aS => exact (below_size (by repeat (first | (with_reducible first | exact HB.out | apply below_alloc | apply pw_below_drewN | apply below_drew1 | refine below_set ?_ GE290.out) | exact HB.out))))
                  (case aL => have := LMc53.out; omega)
                  intro v302 w55 ho hb hg hat
                  rw [← Ny301.out] at ho
                  have n0_ := Aside0.mk (Kd.N_afterv (ok := (fun k_ => (w.heap.size ≤ k_) ∧ some k_ ≠ (u6 : Value).ownBlock ∧ some k_ ≠ (u291002 : Value).ownBlock ∧ k_ ≠ gb290)) (by (with_reducible repeat (first | apply Kd.N_alloc | apply Kd.N_drewN | apply Kd.N_drew)); exact Kd.N_mono HO_5.out (fun _ hk => ⟨⟨hk.1, ⟨hk.2.1, ⟨hk.2.2.2.1, hk.2.2.2.2⟩⟩⟩, hk.2.2.1⟩)) hg hat)
                  have n1_ := Aside0.mk (Kd.N_afterv (ok := (fun k_ => (w.heap.size ≤ k_) ∧ some k_ ≠ (v288 : Value).ownBlock ∧ some k_ ≠ (u291002 : Value).ownBlock ∧ k_ ≠ gb290)) (by (with_reducible repeat (first | apply Kd.N_alloc | apply Kd.N_drewN | apply Kd.N_drew)); exact Kd.N_mono HO_6.out (fun _ hk => ⟨⟨hk.1, ⟨hk.2.1, ⟨hk.2.2.2.1, hk.2.2.2.2⟩⟩⟩, hk.2.2.1⟩)) hg hat)
                  have n2_ := Aside0.mk (Kd.R_after (ok := (fun k_ => (w.heap.size ≤ k_))) (by (with_reducible repeat (first | apply Kd.R_alloc | apply Kd.R_drewN | apply Kd.R_drew)); exact HO_291002.out) hg hat)
                  have n3_ := Aside0.mk (blk_grown (g := gb290) (o := .cells #[.int .i64 x291000_2, u291001, u291002] 66 (0, 0)) (by (with_reducible repeat (first | refine blk_drewN ?_ _ | refine blk_drew ?_ | refine blk_alloc ?_ _)); exact BK290.out) hg (Kd.R_ne HO_291001.out BK290.out (by decide)))
                  have n4_ := Aside0.mk (hb)
                  have n5_ := Aside0.mk (ho)
                  clear HO_5
                  clear HO_6
                  clear HO_291002
                  clear BK290
                  clear HB
                  clear HO_291001
                  have HO_5 := n0_
                  have HO_6 := n1_
                  have HO_291002 := n2_
                  have BK290 := n3_
                  have HB := n4_
                  have HO303 := n5_
                  clear n0_ n1_ n2_ n3_ n4_ n5_
                  clear ho hb hg hat
                  obtain ⟨Ao56, co56, eo56⟩ := Kd.R_slice HO303.out
                  (first | subst eo56 | (injection eo56 with f1_ f2_ f3_; have f4_ := f1_.symm; have f5_ := f3_.symm; clear f1_ f2_ f3_; subst f4_; subst f5_))
                  refine hK.out _ _ ⟨(blk_cell BK290.out 0).trans rfl, (blk_cell BK290.out 1).trans rfl, (blk_cell BK290.out 2).trans rfl, ((HB.out.cell (World.block_lt_of_cell? w _ hw300_0)).trans hw300_0)⟩ (fun hHeld => ?_)
                  clear hK K
                  refine norm_ (a' := ?_) ?_ ?_
                  rotate_left
                  ·show Act.put _ (some 114) _ = _
                   simp only [Act.put, List.setIfInBounds_toArray, List.set_cons_zero, List.set_cons_succ, i64_w, i32_w]
                   rfl
                  refine pq_ 8 (some 115) HT_ ?_
                  refine last_ (i := 9) (N := none) #[true, true, true, true, true, true, true, true, true, true] rfl rfl (one_of HT_.out (by kernel_rfl)) (by decide) (fun K hK => ?_)
                  have hs57 : w55.cell? ⟨gb290, 1, none⟩ = some (u291001) := (blk_cell BK290.out 1).trans rfl
                  have hfs57 := blk_frozen BK290.out 1
                  refine skip_ (w1 := ?_) (by rfl) rfl ?_ ?_
                  rotate_left
                  ·go_simp
                   rfl
                  refine hK.out _ _ ?_
                  clear hK K
                  refine done_ (done_of HT_.out (by kernel_rfl)) ?_
                  try go_wp2
                  go_roundg kj33
                  case measure => have := HJ2.out; have := HK2.out; have := HJ11.out; have := HJ14.out; have := HJ33.out; omega
                  case rel => exact ⟨(x6_2), (wrap64 (x8_2 + 1)), (x9_2), (x291000_2), (y301), (x291002_2), (.slice Ao56 y301.length co56), (u291002), (by first | rfl | (simp; done) | (simp [*]; done)), (by first | rfl | (simp; done) | (simp [*]; done)), H', ⟨by have := HJ2.out; have := HK2.out; have := HJ11.out; have := HJ14.out; have := HJ33.out; omega⟩, ⟨by (with_reducible repeat (first | apply Kd.N_alloc | apply Kd.N_drewN | apply Kd.N_drew)); exact Kd.N_mono (Kd.N_far (p := ⟨gb290, 1, none⟩) (Kd.N_mono HO_5.out (fun k_ hk => (⟨hk, hk.1.2.2.2⟩ : _ ∧ k_ ≠ gb290))) (fun _ hk => hk.2) (.slice Ao56 y301.length co56)) (fun _ hk => ⟨hk.1.1.1, ⟨hk.1.1.2.1, ⟨hk.1.2, ⟨hk.1.1.2.2.1, hk.1.1.2.2.2⟩⟩⟩⟩)⟩, ⟨by (with_reducible repeat (first | apply Kd.N_alloc | apply Kd.N_drewN | apply Kd.N_drew)); exact Kd.N_mono (Kd.N_far (p := ⟨gb290, 1, none⟩) (Kd.N_mono HO_6.out (fun k_ hk => (⟨hk, hk.1.2.2.2⟩ : _ ∧ k_ ≠ gb290))) (fun _ hk => hk.2) (.slice Ao56 y301.length co56)) (fun _ hk => ⟨hk.1.1.1, ⟨hk.1.1.2.1, ⟨hk.1.2, ⟨hk.1.1.2.2.1, hk.1.1.2.2.2⟩⟩⟩⟩)⟩, ⟨by (with_reducible repeat (first | apply Kd.R_alloc | apply Kd.R_drewN | apply Kd.R_drew)); exact Kd.R_mono (Kd.R_far (p := ⟨gb290, 1, none⟩) (Kd.R_types HO303.out BK290.out (by decide)) (fun _ hk => hk.2) (.slice Ao56 y301.length co56)) (fun _ hk => ⟨hk.1.1, hk.1.2⟩)⟩, ⟨by (with_reducible repeat (first | apply Kd.R_alloc | apply Kd.R_drewN | apply Kd.R_drew)); exact Kd.R_mono (Kd.R_far (p := ⟨gb290, 1, none⟩) (Kd.R_types HO_291002.out BK290.out (by decide)) (fun _ hk => hk.2) (.slice Ao56 y301.length co56)) (fun _ hk => ⟨hk.1.1, hk.1.2⟩)⟩, ⟨by (with_reducible repeat (first | refine blk_drewN ?_ _ | refine blk_drew ?_ | refine blk_alloc ?_ _)); refine blk_put (cs := #[.int .i64 x291000_2, u291001, u291002]) ?_ 1 _ rfl; (with_reducible repeat (first | refine blk_drewN ?_ _ | refine blk_drew ?_ | refine blk_alloc ?_ _)); exact BK290.out⟩, ⟨by repeat (first | (with_reducible first | exact HB.out | apply below_alloc | apply pw_below_drewN | apply below_drew1 | refine below_set ?_ GE290.out) | exact HB.out)⟩⟩
                 ·rw [if_neg c53] at H
                  exact absurd H (by simp)
                ·rw [if_neg c52] at H
                 exact absurd H (by simp)
               ·rw [if_neg c51] at H
                exact absurd H (by simp)
              ·replace c50 := Bool.eq_false_iff.mpr c50
               subst c50
               have H1 : (if 0 ≤ x9_2 then (if x9_2 < (l1.length : Int) then (if x291002_2.length < 8796093022208 then (rafterref04_Hunks.l0 kj33 l0 l1 t287 x6_2 x8_2 (wrap64 (x9_2 + 1)) x291000_2 x291001_2 (x291002_2 ++ [rdOf ByteArray.empty l1 x9_2])) else (none)) else (none)) else (none)) = some r := by rw [if_neg (show ¬ (false = true) by decide)] at H; exact H
               clear H
               have H := H1
               clear H1
               by_cases c58 : 0 ≤ x9_2
               ·rw [if_pos c58] at H
                have c58b0 : decide (0 ≤ x9_2) = true := decide_eq_true c58
                clear c58
                by_cases c59 : x9_2 < (l1.length : Int)
                ·rw [if_pos c59] at H
                 have c59b0 : decide (x9_2 < (l1.length : Int)) = true := decide_eq_true c59
                 clear c59
                 by_cases c60 : x291002_2.length < 8796093022208
                 ·rw [if_pos c60] at H
                  have LMc60 := Aside0.mk c60
                  clear c60
                  obtain ⟨y305, hy305⟩ : ∃ y_ : List ByteArray, y_ = (x291002_2 ++ [rdOf ByteArray.empty l1 x9_2]) := ⟨_, rfl⟩
                  replace H : (rafterref04_Hunks.l0 kj33 l0 l1 t287 x6_2 x8_2 (wrap64 (x9_2 + 1)) x291000_2 x291001_2 y305) = some r := by first | (rw [hy305]; with_reducible exact H) | (have H2_ := (Option.bind_some _ _).symm.trans H; rw [hy305]; with_reducible exact H2_) | (have H2_ := (Option.bind_some _ _).symm.trans H; with_reducible exact H2_) | with_reducible exact H | (rw [hy305]; exact H) | exact H
                  have Ny305 := Aside0.mk hy305
                  clear hy305
                  have H' := Aside0.mk H
                  clear H
                  try go_wp2
                  have n0_ := Aside0.mk (Kd.N_drew HO_5.out)
                  have n1_ := Aside0.mk (Kd.N_drew HO_6.out)
                  have n2_ := Aside0.mk (Kd.R_drew HO_291001.out)
                  have n3_ := Aside0.mk (Kd.R_drew HO_291002.out)
                  have n4_ := Aside0.mk (blk_drew BK290.out)
                  have n5_ := Aside0.mk (below_drew1 HB.out)
                  clear HO_5
                  clear HO_6
                  clear HO_291001
                  clear HO_291002
                  clear BK290
                  clear HB
                  have HO_5 := n0_
                  have HO_6 := n1_
                  have HO_291001 := n2_
                  have HO_291002 := n3_
                  have BK290 := n4_
                  have HB := n5_
                  clear n0_ n1_ n2_ n3_ n4_ n5_
                  have p304 : 0 ≤ (x9_2 : Int) := of_decide_eq_true (by first | (with_reducible assumption) | assumption)
                  have q304 : x9_2 < (l1.length : Int) := of_decide_eq_true (by first | (with_reducible assumption) | assumption)
                  obtain ⟨ad304, e304, hx304_0⟩ := Kd.at_string HR1.out x9_2 p304 q304
                  have hw304_0 := hx304_0
                  cases e304
                  replace hx304_0 := (HB.out.cell (World.block_lt_of_cell? w _ hx304_0)).trans hx304_0
                  replace p304 := eq_true p304
                  replace q304 := eq_true q304
                  refine start_ (n := 10) (S := fun w' => w'.cell? ⟨gb290, 0, none⟩ = some (.int .i64 x291000_2) ∧ w'.cell? ⟨gb290, 1, none⟩ = some (u291001) ∧ w'.cell? ⟨gb290, 2, none⟩ = some (u291002) ∧ w'.cell? (ad304.add (x9_2).toNat) = some (.string (rdOf ByteArray.empty l1 x9_2))) (ds := [9]) #[false, false, false, false, false, false, false, false, false, false] (by kernel_rfl) rfl rfl ⟨(blk_cell BK290.out 0).trans rfl, (blk_cell BK290.out 1).trans rfl, (blk_cell BK290.out 2).trans rfl, ((HB.out.cell (World.block_lt_of_cell? w _ hw304_0)).trans hw304_0)⟩ (fun hHeld => ?_); refine with_tabW rafterref04_Hunks.tab23 rafterref04_Hunks.bits23 (fun HT_ HW_ => ?_)
                  generalize wc.drew = w61 at HO_5 HO_6 HO_291001 HO_291002 BK290 HB hx304_0 hHeld ⊢
                  refine pq_ 0 (some 118) HT_ ?_; refine pq_ 2 (some 120) HT_ ?_; refine pq_ 3 (some 121) HT_ ?_; refine pq_ 4 (some 122) HT_ ?_; refine tq_ 1 (some 119) HT_ HW_ hHeld ?_; refine tq_ 5 (some 123) HT_ HW_ hHeld ?_
                  refine one_ (i := 6) (N := some 124) #[true, true, true, true, true, true, true, false, false, false] rfl rfl (one_of HT_.out (by kernel_rfl)) (by decide) (fun K hK => ?_)
                  refine value_ (w1 := ?_) (v := ?_) (by rfl) rfl ?_ ?_
                  rotate_left 2
                  ·go_simp
                   constructor
                   ·rfl
                   ·rfl
                  refine hK.out _ _ ⟨(blk_cell (blk_alloc BK290.out _) 0).trans rfl, (blk_cell (blk_alloc BK290.out _) 1).trans rfl, (blk_cell (blk_alloc BK290.out _) 2).trans rfl, (World.cell?_alloc_lt _ _ _ (World.block_lt_of_cell? _ _ (((HB.out.cell (World.block_lt_of_cell? w _ hw304_0)).trans hw304_0)))).trans (((HB.out.cell (World.block_lt_of_cell? w _ hw304_0)).trans hw304_0))⟩ (fun hHeld => ?_)
                  clear hK K
                  refine norm_ (a' := ?_) ?_ ?_
                  rotate_left
                  ·show Act.put _ (some 124) _ = _
                   simp only [Act.put, List.setIfInBounds_toArray, List.set_cons_zero, List.set_cons_succ, i64_w, i32_w]
                   rfl
                  refine one_ (i := 7) (N := some 125) #[true, true, true, true, true, true, true, true, false, false] rfl rfl (one_of HT_.out (by kernel_rfl)) (by decide) (fun K hK => ?_)
                  refine Kd.R_append_step Kd.string (w0 := w) w.heap.size (by rfl) (.tmp 119) (.tmp 124) 22 9 (.string ⟨#[]⟩) 16 rfl Try.underlying22 info9 rfl (by decide) (by omega) u291002 x291002_2 (rdOf ByteArray.empty l1 x9_2) [.string (rdOf ByteArray.empty l1 x9_2)] (fun k_ => (w.heap.size ≤ k_) ∧ some k_ ≠ (u291001 : Value).ownBlock) (fun _ => False) rfl rfl ?aP (fun _ hk => hk.elim) ?aF ?aO ?aB ?aS ?aL ?_
                  (case aP => exact rfl)
                  (case aB => exact (by repeat (first | (with_reducible first | exact HB.out | apply below_alloc | apply pw_below_drewN | apply below_drew1 | refine below_set ?_ GE290.out) | exact HB.out)))
                  (case aF => exact (fun k_ hk => ⟨(Nat.le_trans (below_size (by repeat (first | (with_reducible first | exact HB.out | apply below_alloc | apply pw_below_drewN | apply below_drew1 | refine below_set ?_ GE290.out) | exact HB.out))) hk), Kd.fresh' (Kd.R_lt (by (with_reducible repeat (first | apply Kd.R_alloc | apply Kd.R_drewN | apply Kd.R_drew)); exact HO_291001.out)) k_ hk⟩))
                  (case aO => exact (by (with_reducible repeat (first | apply Kd.R_alloc | apply Kd.R_drewN | apply Kd.R_drew)); exact HO_291002.out))
                  (case aS => exact (below_size (by repeat (first | (with_reducible first | exact HB.out | apply below_alloc | apply pw_below_drewN | apply below_drew1 | refine below_set ?_ GE290.out) | exact HB.out))))
                  (case aL => have := LMc60.out; omega)
                  intro v306 w62 ho hb hg hat
                  rw [← Ny305.out] at ho
                  have n0_ := Aside0.mk (Kd.N_afterv (ok := (fun k_ => (w.heap.size ≤ k_) ∧ some k_ ≠ (u6 : Value).ownBlock ∧ some k_ ≠ (u291001 : Value).ownBlock ∧ k_ ≠ gb290)) (by (with_reducible repeat (first | apply Kd.N_alloc | apply Kd.N_drewN | apply Kd.N_drew)); exact Kd.N_mono HO_5.out (fun _ hk => ⟨⟨hk.1, ⟨hk.2.1, ⟨hk.2.2.1, hk.2.2.2.2⟩⟩⟩, hk.2.2.2.1⟩)) hg hat)
                  have n1_ := Aside0.mk (Kd.N_afterv (ok := (fun k_ => (w.heap.size ≤ k_) ∧ some k_ ≠ (v288 : Value).ownBlock ∧ some k_ ≠ (u291001 : Value).ownBlock ∧ k_ ≠ gb290)) (by (with_reducible repeat (first | apply Kd.N_alloc | apply Kd.N_drewN | apply Kd.N_drew)); exact Kd.N_mono HO_6.out (fun _ hk => ⟨⟨hk.1, ⟨hk.2.1, ⟨hk.2.2.1, hk.2.2.2.2⟩⟩⟩, hk.2.2.2.1⟩)) hg hat)
                  have n2_ := Aside0.mk (Kd.R_after (ok := (fun k_ => (w.heap.size ≤ k_))) (by (with_reducible repeat (first | apply Kd.R_alloc | apply Kd.R_drewN | apply Kd.R_drew)); exact HO_291001.out) hg hat)
                  have n3_ := Aside0.mk (blk_grown (g := gb290) (o := .cells #[.int .i64 x291000_2, u291001, u291002] 66 (0, 0)) (by (with_reducible repeat (first | refine blk_drewN ?_ _ | refine blk_drew ?_ | refine blk_alloc ?_ _)); exact BK290.out) hg (Kd.R_ne HO_291002.out BK290.out (by decide)))
                  have n4_ := Aside0.mk (hb)
                  have n5_ := Aside0.mk (ho)
                  clear HO_5
                  clear HO_6
                  clear HO_291001
                  clear BK290
                  clear HB
                  clear HO_291002
                  have HO_5 := n0_
                  have HO_6 := n1_
                  have HO_291001 := n2_
                  have BK290 := n3_
                  have HB := n4_
                  have HO307 := n5_
                  clear n0_ n1_ n2_ n3_ n4_ n5_
                  clear ho hb hg hat
                  obtain ⟨Ao63, co63, eo63⟩ := Kd.R_slice HO307.out
                  (first | subst eo63 | (injection eo63 with f1_ f2_ f3_; have f4_ := f1_.symm; have f5_ := f3_.symm; clear f1_ f2_ f3_; subst f4_; subst f5_))
                  refine hK.out _ _ ⟨(blk_cell BK290.out 0).trans rfl, (blk_cell BK290.out 1).trans rfl, (blk_cell BK290.out 2).trans rfl, ((HB.out.cell (World.block_lt_of_cell? w _ hw304_0)).trans hw304_0)⟩ (fun hHeld => ?_)
                  clear hK K
                  refine norm_ (a' := ?_) ?_ ?_
                  rotate_left
                  ·show Act.put _ (some 125) _ = _
                   simp only [Act.put, List.setIfInBounds_toArray, List.set_cons_zero, List.set_cons_succ, i64_w, i32_w]
                   rfl
                  refine pq_ 8 (some 126) HT_ ?_
                  refine last_ (i := 9) (N := none) #[true, true, true, true, true, true, true, true, true, true] rfl rfl (one_of HT_.out (by kernel_rfl)) (by decide) (fun K hK => ?_)
                  have hs64 : w62.cell? ⟨gb290, 2, none⟩ = some (u291002) := (blk_cell BK290.out 2).trans rfl
                  have hfs64 := blk_frozen BK290.out 2
                  refine skip_ (w1 := ?_) (by rfl) rfl ?_ ?_
                  rotate_left
                  ·go_simp
                   rfl
                  refine hK.out _ _ ?_
                  clear hK K
                  refine done_ (done_of HT_.out (by kernel_rfl)) ?_
                  try go_wp2
                  go_roundg kj33
                  case measure => have := HJ2.out; have := HK2.out; have := HJ11.out; have := HJ14.out; have := HJ33.out; omega
                  case rel => exact ⟨(x6_2), (x8_2), (wrap64 (x9_2 + 1)), (x291000_2), (x291001_2), (y305), (u291001), (.slice Ao63 y305.length co63), (by first | rfl | (simp; done) | (simp [*]; done)), (by first | rfl | (simp; done) | (simp [*]; done)), H', ⟨by have := HJ2.out; have := HK2.out; have := HJ11.out; have := HJ14.out; have := HJ33.out; omega⟩, ⟨by (with_reducible repeat (first | apply Kd.N_alloc | apply Kd.N_drewN | apply Kd.N_drew)); exact Kd.N_mono (Kd.N_far (p := ⟨gb290, 2, none⟩) (Kd.N_mono HO_5.out (fun k_ hk => (⟨hk, hk.1.2.2.2⟩ : _ ∧ k_ ≠ gb290))) (fun _ hk => hk.2) (.slice Ao63 y305.length co63)) (fun _ hk => ⟨hk.1.1.1, ⟨hk.1.1.2.1, ⟨hk.1.1.2.2.1, ⟨hk.1.2, hk.1.1.2.2.2⟩⟩⟩⟩)⟩, ⟨by (with_reducible repeat (first | apply Kd.N_alloc | apply Kd.N_drewN | apply Kd.N_drew)); exact Kd.N_mono (Kd.N_far (p := ⟨gb290, 2, none⟩) (Kd.N_mono HO_6.out (fun k_ hk => (⟨hk, hk.1.2.2.2⟩ : _ ∧ k_ ≠ gb290))) (fun _ hk => hk.2) (.slice Ao63 y305.length co63)) (fun _ hk => ⟨hk.1.1.1, ⟨hk.1.1.2.1, ⟨hk.1.1.2.2.1, ⟨hk.1.2, hk.1.1.2.2.2⟩⟩⟩⟩)⟩, ⟨by (with_reducible repeat (first | apply Kd.R_alloc | apply Kd.R_drewN | apply Kd.R_drew)); exact Kd.R_mono (Kd.R_far (p := ⟨gb290, 2, none⟩) (Kd.R_types HO_291001.out BK290.out (by decide)) (fun _ hk => hk.2) (.slice Ao63 y305.length co63)) (fun _ hk => ⟨hk.1.1, hk.1.2⟩)⟩, ⟨by (with_reducible repeat (first | apply Kd.R_alloc | apply Kd.R_drewN | apply Kd.R_drew)); exact Kd.R_mono (Kd.R_far (p := ⟨gb290, 2, none⟩) (Kd.R_types HO307.out BK290.out (by decide)) (fun _ hk => hk.2) (.slice Ao63 y305.length co63)) (fun _ hk => ⟨hk.1.1, hk.1.2⟩)⟩, ⟨by (with_reducible repeat (first | refine blk_drewN ?_ _ | refine blk_drew ?_ | refine blk_alloc ?_ _)); refine blk_put (cs := #[.int .i64 x291000_2, u291001, u291002]) ?_ 2 _ rfl; (with_reducible repeat (first | refine blk_drewN ?_ _ | refine blk_drew ?_ | refine blk_alloc ?_ _)); exact BK290.out⟩, ⟨by repeat (first | (with_reducible first | exact HB.out | apply below_alloc | apply pw_below_drewN | apply below_drew1 | refine below_set ?_ GE290.out) | exact HB.out)⟩⟩
                 ·rw [if_neg c60] at H
                  exact absurd H (by simp)
                ·rw [if_neg c59] at H
                 exact absurd H (by simp)
               ·rw [if_neg c58] at H
                exact absurd H (by simp)
        ·replace c14 := Bool.eq_false_iff.mpr c14
         subst c14
         have H1 : (if (wrap64 ((x291001_2.length : Int) + (x291002_2.length : Int))) > 0 then (if x6_2.length < 2513169434916 then (some (x6_2 ++ [(⟨x291000_2, x291001_2, x291002_2⟩ : S66)])) else (none)) else (some x6_2)) = some r := by rw [if_neg (show ¬ (false = true) by decide)] at H; exact H
         clear H
         have H := H1
         clear H1
         by_cases c65 : (wrap64 ((x291001_2.length : Int) + (x291002_2.length : Int))) > 0
         ·rw [if_pos c65] at H
          have c65b0 : decide (0 < (wrap64 ((x291001_2.length : Int) + (x291002_2.length : Int)))) = true := decide_eq_true c65
          clear c65
          by_cases c66 : x6_2.length < 2513169434916
          ·rw [if_pos c66] at H
           have LMc66 := Aside0.mk c66
           clear c66
           obtain ⟨y308, hy308⟩ : ∃ y_ : List (S66), y_ = (x6_2 ++ [(⟨x291000_2, x291001_2, x291002_2⟩ : S66)]) := ⟨_, rfl⟩
           replace H : (some y308) = some r := by first | (rw [hy308]; with_reducible exact H) | (have H2_ := (Option.bind_some _ _).symm.trans H; rw [hy308]; with_reducible exact H2_) | (have H2_ := (Option.bind_some _ _).symm.trans H; with_reducible exact H2_) | with_reducible exact H | (rw [hy308]; exact H) | exact H
           have Ny308 := Aside0.mk hy308
           clear hy308
           obtain rfl := Option.some.inj H
           have hcz67_0 : wc.cell? ⟨gb290, 0, none⟩ = some (.int .i64 x291000_2) := (blk_cell BK290.out 0).trans rfl
           have hcz67_1 : wc.cell? ⟨gb290, 1, none⟩ = some (u291001) := (blk_cell BK290.out 1).trans rfl
           have hcz67_2 : wc.cell? ⟨gb290, 2, none⟩ = some (u291002) := (blk_cell BK290.out 2).trans rfl
           have hfz67_0 := blk_frozen BK290.out 0
           have hfz67_1 := blk_frozen BK290.out 1
           have hfz67_2 := blk_frozen BK290.out 2
           obtain ⟨Ao68, co68, eo68⟩ := Kd.R_slice HO_291001.out
           subst eo68
           obtain ⟨Ao69, co69, eo69⟩ := Kd.R_slice HO_291002.out
           subst eo69
           go_wp2_with (first | ((with_reducible refine gate_builtin (b := .append) (xs := #[.tmp 137, .tmp 139]) rfl ?_); (try (refine gate_guard (by rfl) ?_; dsimp only)); at_builtin; refine Kd.N_append k66 (w0 := w) w.heap.size rfl (.tmp 137) (.tmp 139) 25 66 (.agg #[(.int .i64 0), (.slice none 0 0), (.slice none 0 0)]) 56 rfl Try.underlying25 info66 rfl (by decide) (by omega) u6 x6_2 (⟨x291000_2, x291001_2, x291002_2⟩ : S66) [.int .i64 x291000_2, .slice Ao68 x291001_2.length co68, .slice Ao69 x291002_2.length co69] (fun k_ => (w.heap.size ≤ k_) ∧ some k_ ≠ (v288 : Value).ownBlock ∧ k_ ≠ gb290) (fun k_ => ((fun k_ => (w.heap.size ≤ k_) ∧ some k_ ≠ (v288 : Value).ownBlock ∧ k_ ≠ gb290)) k_ ∧ some k_ ≠ (u6 : Value).ownBlock) rfl rfl ?aP (fun _ hk => hk) ?aF ?aO ?aB ?aS ?aL ?_; (case aP => exact (k66_mkF _ _ (⟨x291000_2, x291001_2, x291002_2⟩ : S66) (Kd.R_reads' (Kd.R_mono (ok' := (fun k_ => ((fun k_ => (w.heap.size ≤ k_) ∧ some k_ ≠ (v288 : Value).ownBlock ∧ k_ ≠ gb290)) k_ ∧ some k_ ≠ (u6 : Value).ownBlock)) (Kd.R_types (Kd.R_apart' (Kd.R_apart' (HO_291001.out) (Kd.N_typed HO_5.out) (by decide)) (Kd.N_typed HO_6.out) (by decide)) BK290.out (by decide)) (fun k_ hk => ⟨⟨hk.1.1.1.1, ⟨hk.1.1.2, hk.2⟩⟩, hk.1.2⟩))).2.1 (Kd.R_F (Kd.R_mono (ok' := (fun k_ => ((fun k_ => (w.heap.size ≤ k_) ∧ some k_ ≠ (v288 : Value).ownBlock ∧ k_ ≠ gb290)) k_ ∧ some k_ ≠ (u6 : Value).ownBlock)) (Kd.R_types (Kd.R_apart' (Kd.R_apart' (HO_291001.out) (Kd.N_typed HO_5.out) (by decide)) (Kd.N_typed HO_6.out) (by decide)) BK290.out (by decide)) (fun k_ hk => ⟨⟨hk.1.1.1.1, ⟨hk.1.1.2, hk.2⟩⟩, hk.1.2⟩))) (Kd.R_reads' (Kd.R_mono (ok' := (fun k_ => ((fun k_ => (w.heap.size ≤ k_) ∧ some k_ ≠ (v288 : Value).ownBlock ∧ k_ ≠ gb290)) k_ ∧ some k_ ≠ (u6 : Value).ownBlock)) (Kd.R_types (Kd.R_apart' (Kd.R_apart' (HO_291002.out) (Kd.N_typed HO_5.out) (by decide)) (Kd.N_typed HO_6.out) (by decide)) BK290.out (by decide)) (fun k_ hk => ⟨⟨hk.1.1.1.1, ⟨hk.1.1.2, hk.2⟩⟩, hk.1.2⟩))).2.1 (Kd.R_F (Kd.R_mono (ok' := (fun k_ => ((fun k_ => (w.heap.size ≤ k_) ∧ some k_ ≠ (v288 : Value).ownBlock ∧ k_ ≠ gb290)) k_ ∧ some k_ ≠ (u6 : Value).ownBlock)) (Kd.R_types (Kd.R_apart' (Kd.R_apart' (HO_291002.out) (Kd.N_typed HO_5.out) (by decide)) (Kd.N_typed HO_6.out) (by decide)) BK290.out (by decide)) (fun k_ hk => ⟨⟨hk.1.1.1.1, ⟨hk.1.1.2, hk.2⟩⟩, hk.1.2⟩))))); (case aB => exact (by repeat (first | (with_reducible first | exact HB.out | apply below_alloc | apply pw_below_drewN | apply below_drew1 | refine below_set ?_ GE290.out) | exact HB.out))); (case aF => exact (fun k_ hk => ⟨(Nat.le_trans (below_size (by repeat (first | (with_reducible first | exact HB.out | apply below_alloc | apply pw_below_drewN | apply below_drew1 | refine below_set ?_ GE290.out) | exact HB.out))) hk), Kd.fresh' (Kd.N_lt (by (with_reducible repeat (first | apply Kd.N_alloc | apply Kd.N_drewN | apply Kd.N_drew)); exact HO_5.out)) k_ hk, Kd.freshB (g := gb290) (o := .cells #[.int .i64 x291000_2, .slice Ao68 x291001_2.length co68, .slice Ao69 x291002_2.length co69] 66 (0, 0)) (by (with_reducible repeat (first | refine blk_drewN ?_ _ | refine blk_drew ?_ | refine blk_alloc ?_ _)); exact BK290.out) k_ hk⟩)); (case aO => exact (by (with_reducible repeat (first | apply Kd.N_alloc | apply Kd.N_drewN | apply Kd.N_drew)); exact Kd.N_mono HO_6.out (fun _ hk => ⟨hk.1, ⟨hk.2.1, hk.2.2.2.2⟩⟩))); (case aS => exact (below_size (by repeat (first | (with_reducible first | exact HB.out | apply below_alloc | apply pw_below_drewN | apply below_drew1 | refine below_set ?_ GE290.out) | exact HB.out)))); (case aL => have := LMc66.out; omega); intro v309 w70 ho hb hg hat; rw [← Ny308.out] at ho; have n0_ := Aside0.mk (Kd.N_afterv (ok := (fun k_ => (w.heap.size ≤ k_) ∧ some k_ ≠ (.slice Ao68 x291001_2.length co68 : Value).ownBlock ∧ some k_ ≠ (.slice Ao69 x291002_2.length co69 : Value).ownBlock ∧ k_ ≠ gb290)) (by (with_reducible repeat (first | apply Kd.N_alloc | apply Kd.N_drewN | apply Kd.N_drew)); exact Kd.N_mono HO_5.out (fun _ hk => ⟨⟨hk.1, ⟨hk.2.2.1, ⟨hk.2.2.2.1, hk.2.2.2.2⟩⟩⟩, hk.2.1⟩)) hg hat); have n1_ := Aside0.mk (blk_grown (g := gb290) (o := .cells #[.int .i64 x291000_2, .slice Ao68 x291001_2.length co68, .slice Ao69 x291002_2.length co69] 66 (0, 0)) (by (with_reducible repeat (first | refine blk_drewN ?_ _ | refine blk_drew ?_ | refine blk_alloc ?_ _)); exact BK290.out) hg (Kd.N_away HO_6.out (fun _ hk => hk.2.2.2.2))); have n2_ := Aside0.mk (hb); have n3_ := Aside0.mk (ho); clear HO_5; clear BK290; clear HB; clear HO_6; clear HO_291001; clear HO_291002; have HO_5 := n0_; have BK290 := n1_; have HB := n2_; have HO310 := n3_; clear n0_ n1_ n2_ n3_; clear ho hb hg hat))
           go_ret
           exact ⟨_, by first | rfl | (simp [errW_none, errW_some] <;> rfl) | (simp [*, errW_none, errW_some] <;> rfl), by (with_reducible repeat (first | apply Kd.N_alloc | apply Kd.N_drewN | apply Kd.N_drew)); exact Kd.N_mono HO310.out (fun _ hk => hk.1), by repeat (first | (with_reducible first | exact HB.out | apply below_alloc | apply pw_below_drewN | apply below_drew1 | refine below_set ?_ GE290.out) | exact HB.out)⟩
          ·rw [if_neg c66] at H
           exact absurd H (by simp)
         ·rw [if_neg c65] at H
          have c65b0 : decide (0 < (wrap64 ((x291001_2.length : Int) + (x291002_2.length : Int)))) = false := decide_eq_false c65
          clear c65
          obtain rfl := Option.some.inj H
          have hcz71_0 : wc.cell? ⟨gb290, 0, none⟩ = some (.int .i64 x291000_2) := (blk_cell BK290.out 0).trans rfl
          have hcz71_1 : wc.cell? ⟨gb290, 1, none⟩ = some (u291001) := (blk_cell BK290.out 1).trans rfl
          have hcz71_2 : wc.cell? ⟨gb290, 2, none⟩ = some (u291002) := (blk_cell BK290.out 2).trans rfl
          have hfz71_0 := blk_frozen BK290.out 0
          have hfz71_1 := blk_frozen BK290.out 1
          have hfz71_2 := blk_frozen BK290.out 2
          obtain ⟨Ao72, co72, eo72⟩ := Kd.R_slice HO_291001.out
          subst eo72
          obtain ⟨Ao73, co73, eo73⟩ := Kd.R_slice HO_291002.out
          subst eo73
          go_wp2
          go_ret
          exact ⟨_, by first | rfl | (simp [errW_none, errW_some] <;> rfl) | (simp [*, errW_none, errW_some] <;> rfl), by (with_reducible repeat (first | apply Kd.N_alloc | apply Kd.N_drewN | apply Kd.N_drew)); exact Kd.N_mono HO_6.out (fun _ hk => hk.1), by repeat (first | (with_reducible first | exact HB.out | apply below_alloc | apply pw_below_drewN | apply below_drew1 | refine below_set ?_ GE290.out) | exact HB.out)⟩

end Go.Proofs.Ytnegeacpfkcecaa.XDiff
