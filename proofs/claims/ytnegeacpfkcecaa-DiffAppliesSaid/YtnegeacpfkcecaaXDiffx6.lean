/- Printed by px.py, a program of this session over the print of the kit: functions that the law reaches, as Lean functions, each with a proof that its Go code answers so. No condition. -/
import Derived.Test.YtnegeacpfkcecaaXDiffx0
import Derived.Test.YtnegeacpfkcecaaXDiffx1
import Derived.Test.YtnegeacpfkcecaaXDiffx5
import Derived.Test.YtnegeacpfkcecaaEStep
namespace Go.Proofs.Ytnegeacpfkcecaa.XDiff
open Go.RowKit Go.Proofs.YtnegeacpfkcecaaW.PrintWords Go.Proofs.YtnegeacpfkcecaaW.PrintLast Go.Proofs.YtnegeacpfkcecaaW.PrintMore Go.Proofs.Ytnegeacpfkcecaa.EStep
attribute [local go_sem] max2_int min2_int max_two min_two max_three min_three max_four min_four   -- for this text's walks alone
set_option linter.unusedVariables false
set_option linter.unusedSimpArgs false

/-! ### diff_Apply: function 14 -/
mutual
def diff_Apply.l0 : Nat → List ByteArray → List ByteArray → Int → List (S66) → Int → Int → Option (List ByteArray × Int)
 | 0, _, _, _, _, _, _ => none
 | k + 1, x0, x7, x8, x16, x17, x18 => if x18 < x17 then (if 0 ≤ x18 then (if x18 < (x16.length : Int) then (if ((rd_T66 x16 x18).f0) > (x0.length : Int) then (diff_Apply.j1 k x0 x7 x8 x16 x17 x18 true ((rd_T66 x16 x18).f0) ((rd_T66 x16 x18).f1) ((rd_T66 x16 x18).f2)) else (if (((rd_T66 x16 x18).f1).length : Int) > (wrap64 ((x0.length : Int) - ((rd_T66 x16 x18).f0))) then (diff_Apply.j1 k x0 x7 x8 x16 x17 x18 true ((rd_T66 x16 x18).f0) ((rd_T66 x16 x18).f1) ((rd_T66 x16 x18).f2)) else (if 0 ≤ ((rd_T66 x16 x18).f0) then (if ((rd_T66 x16 x18).f0) ≤ (wrap64 (((rd_T66 x16 x18).f0) + (((rd_T66 x16 x18).f1).length : Int))) then (if (wrap64 (((rd_T66 x16 x18).f0) + (((rd_T66 x16 x18).f1).length : Int))) ≤ (x0.length : Int) then ((lines_Same.f k ((x0.take ((wrap64 (((rd_T66 x16 x18).f0) + (((rd_T66 x16 x18).f1).length : Int))) : Int).toNat).drop (((rd_T66 x16 x18).f0) : Int).toNat) ((rd_T66 x16 x18).f1)).bind fun t162 => (diff_Apply.j1 k x0 x7 x8 x16 x17 x18 (!t162) ((rd_T66 x16 x18).f0) ((rd_T66 x16 x18).f1) ((rd_T66 x16 x18).f2))) else (none)) else (none)) else (none)))) else (none)) else (none)) else (if 0 ≤ x8 then (if x8 ≤ (x0.length : Int) then (if x7.length + (x0.drop (x8 : Int).toNat).length < 8796093022208 then (some ((x7 ++ (x0.drop (x8 : Int).toNat)), 0)) else (none)) else (none)) else (none))
def diff_Apply.j1 : Nat → List ByteArray → List ByteArray → Int → List (S66) → Int → Int → Bool → Int → List ByteArray → List ByteArray → Option (List ByteArray × Int)
 | 0, _, _, _, _, _, _, _, _, _, _ => none
 | k + 1, x0, x7, x8, x16, x17, x18, x53, x161000, x161001, x161002 => if x53 = true then (some (([] : List ByteArray), 13)) else (if 0 ≤ x8 then (if x8 ≤ x161000 then (if x161000 ≤ (x0.length : Int) then (if x7.length + ((x0.take (x161000 : Int).toNat).drop (x8 : Int).toNat).length < 8796093022208 then ((some (x7 ++ ((x0.take (x161000 : Int).toNat).drop (x8 : Int).toNat) : List ByteArray)).bind fun y164 => (if y164.length + x161002.length < 8796093022208 then (diff_Apply.l0 k x0 (y164 ++ x161002) (wrap64 (x161000 + (x161001.length : Int))) x16 x17 (wrap64 (x18 + 1))) else (none))) else (none)) else (none)) else (none)) else (none))
end
def diff_Apply.f (k : Nat) (l0 : List ByteArray) (l1 : List (S66)) : Option (List ByteArray × Int) := (diff_Check.f k l1).bind fun t154 => (if t154 = 0 then (diff_Apply.l0 k l0 ([] : List ByteArray) 0 l1 (l1.length : Int) 0) else (some (([] : List ByteArray), t154)))
theorem diff_Apply.mono_l : ∀ k, (∀ y0 y1 y2 y3 y4 y5, LeO (diff_Apply.l0 k y0 y1 y2 y3 y4 y5) (diff_Apply.l0 (k + 1) y0 y1 y2 y3 y4 y5)) ∧ (∀ y0 y1 y2 y3 y4 y5 y6 y7 y8 y9, LeO (diff_Apply.j1 k y0 y1 y2 y3 y4 y5 y6 y7 y8 y9) (diff_Apply.j1 (k + 1) y0 y1 y2 y3 y4 y5 y6 y7 y8 y9))
 | 0 => ⟨fun _ _ _ _ _ _ r h => by simp [diff_Apply.l0] at h, fun _ _ _ _ _ _ _ _ _ _ r h => by simp [diff_Apply.j1] at h⟩
 | k + 1 => by
  obtain ⟨ih0, ih1⟩ := diff_Apply.mono_l k
  refine ⟨?_, ?_⟩
  ·intro y0 y1 y2 y3 y4 y5
   unfold diff_Apply.l0
   repeat' first
   | (with_reducible exact ih0 _ _ _ _ _ _)
   | (with_reducible exact ih1 _ _ _ _ _ _ _ _ _ _)
   | (with_reducible exact diff_Check.mono _ _)
   | (with_reducible exact lines_Same.mono _ _ _)
   | (with_reducible exact LeO.refl _)
   | (with_reducible exact LeO.none _)
   | (with_reducible refine LeO.ite ?_ ?_)
   | (with_reducible refine LeO.bind ?_ (fun _ => ?_))
   | exact ih0 _ _ _ _ _ _
   | exact ih1 _ _ _ _ _ _ _ _ _ _
   | exact diff_Check.mono _ _
   | exact lines_Same.mono _ _ _
   | exact LeO.none _
   | refine LeO.ite ?_ ?_
   | refine LeO.bind ?_ (fun _ => ?_)
  ·intro y0 y1 y2 y3 y4 y5 y6 y7 y8 y9
   unfold diff_Apply.j1
   repeat' first
   | (with_reducible exact ih0 _ _ _ _ _ _)
   | (with_reducible exact ih1 _ _ _ _ _ _ _ _ _ _)
   | (with_reducible exact diff_Check.mono _ _)
   | (with_reducible exact lines_Same.mono _ _ _)
   | (with_reducible exact LeO.refl _)
   | (with_reducible exact LeO.none _)
   | (with_reducible refine LeO.ite ?_ ?_)
   | (with_reducible refine LeO.bind ?_ (fun _ => ?_))
   | exact ih0 _ _ _ _ _ _
   | exact ih1 _ _ _ _ _ _ _ _ _ _
   | exact diff_Check.mono _ _
   | exact lines_Same.mono _ _ _
   | exact LeO.none _
   | refine LeO.ite ?_ ?_
   | refine LeO.bind ?_ (fun _ => ?_)
theorem diff_Apply.mono : ∀ a0 a1 k, LeO (diff_Apply.f k a0 a1) (diff_Apply.f (k + 1) a0 a1) := by
 intro a0 a1 k
 obtain ⟨ih0, ih1⟩ := diff_Apply.mono_l k
 unfold diff_Apply.f
 repeat' first
   | (with_reducible exact ih0 _ _ _ _ _ _)
   | (with_reducible exact ih1 _ _ _ _ _ _ _ _ _ _)
   | (with_reducible exact diff_Check.mono _ _)
   | (with_reducible exact lines_Same.mono _ _ _)
   | (with_reducible exact LeO.refl _)
   | (with_reducible exact LeO.none _)
   | (with_reducible refine LeO.ite ?_ ?_)
   | (with_reducible refine LeO.bind ?_ (fun _ => ?_))
   | exact ih0 _ _ _ _ _ _
   | exact ih1 _ _ _ _ _ _ _ _ _ _
   | exact diff_Check.mono _ _
   | exact lines_Same.mono _ _ _
   | exact LeO.none _
   | refine LeO.ite ?_ ?_
   | refine LeO.bind ?_ (fun _ => ?_)
def diff_Apply.T9 : Bool × List (List Nat × List Nat) := (true, [([], []), ([0], [0]), ([], []), ([2], [2]), ([1, 3], [1, 3]), ([4], [4]), ([5], [5]), ([6, 5], [5, 6]), ([7, 5], [5, 7]), ([5], [5]), ([9, 5], [5, 9]), ([5], [5]), ([11, 5], [5, 11]), ([10, 12, 5], [5, 10, 12]), ([8, 13, 5], [5, 8, 13]), ([5, 14], [5, 14]), ([15, 5], [15]), ([16], [16]), ([16], [16]), ([18, 16], [16, 18]), ([16], [16]), ([20, 16], [16, 20]), ([16], [16]), ([22, 16], [16, 22]), ([23, 16], [16, 23]), ([21, 24, 16], [16, 21, 24]), ([17, 19, 25, 16], [16, 17, 19, 25]), ([16], [16]), ([27, 16], [16, 27]), ([26, 28, 16, 16], [16, 26, 28]), ([29, 16], [16, 29]), ([16, 30], [16, 30])])
def diff_Apply.B9 : List Nat := [0, 1, 0, 4, 15, 31, 63, 127, 255, 63, 575, 63, 2111, 7743, 16383, 32767, 65535, 131071, 131071, 393215, 131071, 1179647, 131071, 4325375, 12713983, 32636927, 67108863, 131071, 134348799, 536870911, 1073741823, 2147483647]
theorem diff_Apply.tab9 : rtab .any (opsOf Try.f14 9) = diff_Apply.T9 := by kernel_rfl
theorem diff_Apply.bits9 : waitsOk diff_Apply.T9.2 diff_Apply.B9 = true := by kernel_rfl
def diff_Apply.T11 : Bool × List (List Nat × List Nat) := (true, [([], []), ([], []), ([], []), ([], []), ([3], [3]), ([1, 2, 4], [1, 2, 4]), ([0, 5], [0, 5]), ([], []), ([7], [7]), ([6, 8, 6], [6, 8]), ([9, 9, 0, 1, 2, 3, 4, 5, 6, 7, 8, 9], [0, 9])])
def diff_Apply.B11 : List Nat := [0, 0, 0, 0, 8, 30, 63, 0, 128, 511, 1023]
theorem diff_Apply.tab11 : rtab .any (opsOf Try.f14 11) = diff_Apply.T11 := by kernel_rfl
theorem diff_Apply.bits11 : waitsOk diff_Apply.T11.2 diff_Apply.B11 = true := by kernel_rfl
set_option maxHeartbeats 8000000 in
set_option maxRecDepth 100000 in
theorem diff_Apply.calls (k : Nat) (A0 : Option Addr) (c0 : Nat) (l0 : List ByteArray) (A1 : Option Addr) (c1 : Nat) (l1 : List (S66)) (r1 : List ByteArray) (r2 : Int) (w : World) (hr0 : Kd.C Kd.string w A0 l0.length l0) (hc0 : l0.length ≤ c0) (hr1 : Kd.C k66 w A1 l1.length l1) (hc1 : l1.length ≤ c1) (h : diff_Apply.f k l0 l1 = some (r1, r2)) :
  Calls Try.prog 14 #[.slice A0 l0.length c0, .slice A1 l1.length c1] w fun e w' => ∃ v0_ : Value, e = .returned (.tuple #[v0_, .int .i64 r2]) ∧ Kd.R Kd.string 9 w' w.heap.size (fun _ => True) v0_ r1 ∧ Below w.heap.size w w' := by
 have hu66 := Try.underlying66
 have HR0 := Aside0.mk hr0
 have HC0 := Aside0.mk hc0
 clear hr0 hc0
 have HR1 := Aside0.mk hr1
 have HC1 := Aside0.mk hc1
 clear hr1 hc1
 have HB := Aside0.mk (Below.refl w.heap.size w)
 have H : ((diff_Check.f k l1).bind fun t154 => (if t154 = 0 then (diff_Apply.l0 k l0 ([] : List ByteArray) 0 l1 (l1.length : Int) 0) else (some (([] : List ByteArray), t154)))) = some (r1, r2) := h
 clear h
 replace H := Option.bind_eq_some_iff.mp H
 obtain ⟨t154, A30, H⟩ := H
 replace H : (if t154 = 0 then (diff_Apply.l0 k l0 ([] : List ByteArray) 0 l1 (l1.length : Int) 0) else (some (([] : List ByteArray), t154))) = some (r1, r2) := H
 have A3 := Aside0.mk A30
 clear A30
 by_cases c4 : t154 = 0
 ·rw [if_pos c4] at H
  have c4b0 : (t154 == 0) = true := beq_iff_eq.mpr c4
  have c4b1 : (t154 != 0) = false := bne_eq_false_iff_eq.mpr c4
  clear c4
  have H' := Aside0.mk H
  clear H
  go_enter Try.func14, Try.ntmps14
  go_wp2_with (first | ((with_reducible refine gate_callee (f := 24) rfl ?_); refine goesL_ (some 12) rfl rfl Try.func24 (by kernel_rfl) rfl #[.slice A1 l1.length c1] rfl (by (try simp only [List.map_toArray, List.map_cons, List.map_nil]); first | done | rfl | (simp only [List.length_drop, List.length_take]; rfl)) ?_; (with_reducible refine (diff_Check.calls k _ _ l1 t154 _ ?side1 ?side2 A3.out).mono ?_); (case side1 => repeat (first | exact HR1.out | (with_reducible refine Kd.C_alloc ?_ _) | (with_reducible refine Kd.C_drewN ?_ _) | (with_reducible refine Kd.C_drew ?_))); (case side2 => exact HC1.out); rintro e w5 ⟨rfl, hb⟩; refine ⟨_, rfl, ?_⟩; have n0_ := Aside0.mk (below_step (by repeat (first | (with_reducible first | exact HB.out | apply below_alloc | apply pw_below_drewN | apply below_drew1) | exact HB.out)) hb); clear HB; have HB := n0_; clear n0_; (try clear hb); (try clear hb2); (try clear hk); (try clear hi)))
  go_loopg [7, 8, 18] k (fun kq v7 v8 v18 w' => ∃ (x7_1 : List ByteArray) (x8_1 : Int) (x18_1 : Int), v8 = .int .i64 x8_1 ∧ v18 = .int .i64 x18_1 ∧ Aside0 (diff_Apply.l0 kq l0 x7_1 x8_1 l1 (l1.length : Int) x18_1 = some (r1, r2)) ∧ Aside0 (kq ≤ k) ∧ Aside0 (Kd.R Kd.string 9 w' w.heap.size (fun _ => True) v7 x7_1) ∧ Aside0 (Below w.heap.size w w'))
  case atStart => exact ⟨(([] : List ByteArray)), (0), (0), (by first | rfl | (simp; done) | (simp [*]; done)), (by first | rfl | (simp; done) | (simp [*]; done)), H', ⟨Nat.le_refl _⟩, ⟨by first | exact Kd.R_nil _ _ _ _ _ | exact Kd.N_nil _ _ _ _ _ | exact Kd.V_nil _ _ _ _ _ | exact Kd.Q_nil _ _ _ _ _ | exact Kd.S_nil _ _ _ _ _⟩, ⟨by repeat (first | (with_reducible first | exact HB.out | apply below_alloc | apply pw_below_drewN | apply below_drew1) | exact HB.out)⟩⟩
  case round =>
   clear H'
   try clear c1
   try clear c2
   try clear p2
   try clear c4
   try clear c4b0
   try clear c4b1
   obtain ⟨x7_1, x8_1, x18_1, rfl, rfl, HA, HK1, HO_7, HB⟩ := hrel
   cases gk with
   | zero => exact absurd HA.out (by simp [diff_Apply.l0])
   | succ k1 =>
    have H := HA.out
    clear HA
    simp only [diff_Apply.l0] at H
    by_cases c6 : x18_1 < (l1.length : Int)
    ·rw [if_pos c6] at H
     have c6b0 : decide (x18_1 < (l1.length : Int)) = true := decide_eq_true c6
     clear c6
     by_cases c7 : 0 ≤ x18_1
     ·rw [if_pos c7] at H
      have c7b0 : decide (0 ≤ x18_1) = true := decide_eq_true c7
      clear c7
      by_cases c8 : x18_1 < (l1.length : Int)
      ·rw [if_pos c8] at H
       have c8b0 : decide (x18_1 < (l1.length : Int)) = true := decide_eq_true c8
       clear c8
       have HC9 := Aside0.mk H
       clear H
       have p159 : 0 ≤ (x18_1 : Int) := of_decide_eq_true (by first | (with_reducible assumption) | assumption)
       have q159 : x18_1 < (l1.length : Int) := of_decide_eq_true (by first | (with_reducible assumption) | assumption)
       obtain ⟨ad159, A159_1, c159_1, A159_2, c159_2, e159, hx159_0, hx159_1, hx159_2, hl159_1, hi159_1, hl159_2, hi159_2⟩ := at_T66 HR1.out x18_1 p159 q159
       cases e159
       replace hx159_0 := (HB.out.cell (World.block_lt_of_cell? w _ hx159_0)).trans hx159_0
       replace hx159_1 := (HB.out.cell (World.block_lt_of_cell? w _ hx159_1)).trans hx159_1
       replace hx159_2 := (HB.out.cell (World.block_lt_of_cell? w _ hx159_2)).trans hx159_2
       have HR159_1 := Aside0.mk hi159_1
       have HC159_1 := Aside0.mk hl159_1
       clear hi159_1 hl159_1
       have HR159_2 := Aside0.mk hi159_2
       have HC159_2 := Aside0.mk hl159_2
       clear hi159_2 hl159_2
       replace p159 := eq_true p159
       replace q159 := eq_true q159
       go_upto_region 9 with (first | ((with_reducible refine gate_dst (N := 10) rfl ?_); (try (refine gate_guard (by rfl) ?_; dsimp only)); refine box_event ?hg (N := 10) ?hd (cs := #[.int .i64 0, .slice none 0 0, .slice none 0 0]) (t := 66) ?hr ?_; (case hd => rfl); (case hg => rfl); (case hr => first | (go_simp; done) | (go_simp; rfl)); intro gb160 hg w10 hbox hb; have n0_ := Aside0.mk (Kd.R_below (by (with_reducible repeat (first | apply Kd.R_alloc | apply Kd.R_drewN | apply Kd.R_drew)); exact HO_7.out) hb); have n1_ := Aside0.mk (below_step (by repeat (first | (with_reducible first | exact HB.out | apply below_alloc | apply pw_below_drewN | apply below_drew1) | exact HB.out)) hb); have n2_ := Aside0.mk (hbox); have n3_ := Aside0.mk ((by rw [hg]; exact (below_size (by repeat (first | (with_reducible first | exact HB.out | apply below_alloc | apply pw_below_drewN | apply below_drew1) | exact HB.out))) : w.heap.size ≤ gb160)); have n4_ := Aside0.mk ((by rw [hg]; exact (below_size (by repeat (first | (with_reducible first | exact HB.out | apply below_alloc | apply pw_below_drewN | apply below_drew1) | exact HB.out))) : w.heap.size ≤ gb160)); clear HO_7; clear HB; have HO_7 := n0_; have HB := n1_; have BK160 := n2_; have GW160 := n3_; have GE160 := n4_; clear n0_ n1_ n2_ n3_ n4_; clear hb hbox hg; have hcz11_0 : w10.cell? ⟨gb160, 0, none⟩ = some (.int .i64 0) := (blk_cell BK160.out 0).trans rfl; have hcz11_1 : w10.cell? ⟨gb160, 1, none⟩ = some (.slice none 0 0) := (blk_cell BK160.out 1).trans rfl; have hcz11_2 : w10.cell? ⟨gb160, 2, none⟩ = some (.slice none 0 0) := (blk_cell BK160.out 2).trans rfl; have hfz11_0 := blk_frozen BK160.out 0; have hfz11_1 := blk_frozen BK160.out 1; have hfz11_2 := blk_frozen BK160.out 2))
       (try simp only [Act.put, List.setIfInBounds_toArray, List.set_cons_zero, List.set_cons_succ])
       go_cut [53] (fun v53 wc => ∃ (kq : Nat) (x53_8 : Bool), v53 = .bool x53_8 ∧ Aside0 (diff_Apply.j1 kq l0 x7_1 x8_1 l1 (l1.length : Int) x18_1 x53_8 ((rd_T66 l1 x18_1).f0) ((rd_T66 l1 x18_1).f1) ((rd_T66 l1 x18_1).f2) = some (r1, r2)) ∧ Aside0 (kq ≤ k1) ∧ Aside0 (Kd.R Kd.string 9 wc w.heap.size (fun _ => True) u7 x7_1) ∧ Aside0 (wc.heap[gb160]? = some (.cells #[.int .i64 ((rd_T66 l1 x18_1).f0), (.slice A159_1 ((rd_T66 l1 x18_1).f1).length c159_1), (.slice A159_2 ((rd_T66 l1 x18_1).f2).length c159_2)] 66 (0, 0))) ∧ Aside0 (Below w.heap.size w wc))
       case first =>
        have H := HC9.out
        clear HC9
        by_cases c12 : ((rd_T66 l1 x18_1).f0) > (l0.length : Int)
        ·rw [if_pos c12] at H
         have c12b0 : decide ((l0.length : Int) < ((rd_T66 l1 x18_1).f0)) = true := decide_eq_true c12
         clear c12
         (first | rw [c12b0] | (simp only [i64_w, i32_w]; rw [c12b0]) | skip)
         have H' := Aside0.mk H
         clear H
         try go_wp2
         have n0_ : Aside0 (Kd.R Kd.string 9 (((w10.setCell ⟨gb160, 0, none⟩ (.int .i64 ((rd_T66 l1 x18_1).f0))).setCell ⟨gb160, 1, none⟩ (.slice A159_1 ((rd_T66 l1 x18_1).f1).length c159_1)).setCell ⟨gb160, 2, none⟩ (.slice A159_2 ((rd_T66 l1 x18_1).f2).length c159_2)) w.heap.size (fun _ => True) u7 x7_1) := ⟨by (with_reducible repeat (first | apply Kd.R_alloc | apply Kd.R_drewN | apply Kd.R_drew)); exact Kd.R_mono (Kd.R_far (p := ⟨gb160, 2, none⟩) (Kd.R_far (p := ⟨gb160, 1, none⟩) (Kd.R_far (p := ⟨gb160, 0, none⟩) (Kd.R_types HO_7.out BK160.out (by decide)) (fun _ hk => hk.2) (.int .i64 ((rd_T66 l1 x18_1).f0))) (fun _ hk => hk.2) (.slice A159_1 ((rd_T66 l1 x18_1).f1).length c159_1)) (fun _ hk => hk.2) (.slice A159_2 ((rd_T66 l1 x18_1).f2).length c159_2)) (fun _ hk => trivial)⟩
         have n1_ : Aside0 ((((w10.setCell ⟨gb160, 0, none⟩ (.int .i64 ((rd_T66 l1 x18_1).f0))).setCell ⟨gb160, 1, none⟩ (.slice A159_1 ((rd_T66 l1 x18_1).f1).length c159_1)).setCell ⟨gb160, 2, none⟩ (.slice A159_2 ((rd_T66 l1 x18_1).f2).length c159_2)).heap[gb160]? = some (.cells #[.int .i64 ((rd_T66 l1 x18_1).f0), .slice A159_1 ((rd_T66 l1 x18_1).f1).length c159_1, .slice A159_2 ((rd_T66 l1 x18_1).f2).length c159_2] 66 (0, 0))) := ⟨by (with_reducible repeat (first | refine blk_drewN ?_ _ | refine blk_drew ?_ | refine blk_alloc ?_ _)); refine blk_put (cs := #[.int .i64 ((rd_T66 l1 x18_1).f0), .slice A159_1 ((rd_T66 l1 x18_1).f1).length c159_1, .slice none 0 0]) ?_ 2 _ rfl; (with_reducible repeat (first | refine blk_drewN ?_ _ | refine blk_drew ?_ | refine blk_alloc ?_ _)); refine blk_put (cs := #[.int .i64 ((rd_T66 l1 x18_1).f0), .slice none 0 0, .slice none 0 0]) ?_ 1 _ rfl; (with_reducible repeat (first | refine blk_drewN ?_ _ | refine blk_drew ?_ | refine blk_alloc ?_ _)); refine blk_put (cs := #[.int .i64 0, .slice none 0 0, .slice none 0 0]) ?_ 0 _ rfl; (with_reducible repeat (first | refine blk_drewN ?_ _ | refine blk_drew ?_ | refine blk_alloc ?_ _)); exact BK160.out⟩
         have n2_ : Aside0 (Below w.heap.size w (((w10.setCell ⟨gb160, 0, none⟩ (.int .i64 ((rd_T66 l1 x18_1).f0))).setCell ⟨gb160, 1, none⟩ (.slice A159_1 ((rd_T66 l1 x18_1).f1).length c159_1)).setCell ⟨gb160, 2, none⟩ (.slice A159_2 ((rd_T66 l1 x18_1).f2).length c159_2))) := ⟨by repeat (first | (with_reducible first | exact HB.out | apply below_alloc | apply pw_below_drewN | apply below_drew1 | refine below_set ?_ GE160.out) | exact HB.out)⟩
         (try clear HO_7)
         (try clear BK160)
         (try clear HB)
         generalize (((w10.setCell ⟨gb160, 0, none⟩ (.int .i64 ((rd_T66 l1 x18_1).f0))).setCell ⟨gb160, 1, none⟩ (.slice A159_1 ((rd_T66 l1 x18_1).f1).length c159_1)).setCell ⟨gb160, 2, none⟩ (.slice A159_2 ((rd_T66 l1 x18_1).f2).length c159_2)) = w13 at n0_ n1_ n2_ ⊢
         have HO_7 := n0_
         have BK160 := n1_
         have HB := n2_
         clear n0_ n1_ n2_
         have n0_ := Aside0.mk (Kd.R_drew HO_7.out)
         have n1_ := Aside0.mk (blk_drew BK160.out)
         have n2_ := Aside0.mk (below_drew1 HB.out)
         clear HO_7
         clear BK160
         clear HB
         have HO_7 := n0_
         have BK160 := n1_
         have HB := n2_
         clear n0_ n1_ n2_
         refine start_ (n := 32) (S := fun w' => w'.cell? ⟨gb160, 0, none⟩ = some (.int .i64 ((rd_T66 l1 x18_1).f0)) ∧ w'.cell? ⟨gb160, 1, none⟩ = some (.slice A159_1 ((rd_T66 l1 x18_1).f1).length c159_1) ∧ w'.cell? ⟨gb160, 2, none⟩ = some (.slice A159_2 ((rd_T66 l1 x18_1).f2).length c159_2)) (ds := []) #[false, false, false, false, false, false, false, false, false, false, false, false, false, false, false, false, false, false, false, false, false, false, false, false, false, false, false, false, false, false, false, false] (by kernel_rfl) rfl rfl ⟨(blk_cell BK160.out 0).trans rfl, (blk_cell BK160.out 1).trans rfl, (blk_cell BK160.out 2).trans rfl⟩ (fun hHeld => ?_); refine with_tabW diff_Apply.tab9 diff_Apply.bits9 (fun HT_ HW_ => ?_)
         generalize w13.drew = w14 at HO_7 BK160 HB hHeld ⊢
         refine pq_ 0 (some 22) HT_ ?_; refine pq_ 2 (some 24) HT_ ?_; refine pq_ 3 (some 25) HT_ ?_; refine tq_ 1 (some 23) HT_ HW_ hHeld ?_; refine pq_ 4 (some 26) HT_ ?_; refine pq_ 5 (some 27) HT_ ?_; refine pf_ 6 (some 28) HT_ ?_; refine pf_ 7 (some 29) HT_ ?_; refine pf_ 8 (some 30) HT_ ?_; refine pf_ 9 (some 31) HT_ ?_; refine pf_ 10 (some 32) HT_ ?_; refine pf_ 11 (some 33) HT_ ?_
         refine pf_ 12 (some 34) HT_ ?_; refine pf_ 13 (some 35) HT_ ?_; refine pf_ 14 (some 36) HT_ ?_; refine pq_ 15 (some 37) HT_ ?_; refine pq_ 16 (some 38) HT_ ?_; refine pf_ 17 (some 39) HT_ ?_; refine pf_ 18 (some 40) HT_ ?_; refine pf_ 19 (some 41) HT_ ?_; refine pf_ 20 (some 42) HT_ ?_; refine pf_ 21 (some 43) HT_ ?_; refine pf_ 22 (some 44) HT_ ?_; refine pf_ 23 (some 45) HT_ ?_
         refine pf_ 24 (some 46) HT_ ?_; refine pf_ 25 (some 47) HT_ ?_; refine pf_ 26 (some 48) HT_ ?_; refine pf_ 27 (some 49) HT_ ?_; refine pf_ 28 (some 50) HT_ ?_; refine pf_ 29 (some 51) HT_ ?_; refine pf_ 30 (some 52) HT_ ?_; refine pq_ 31 (some 53) HT_ ?_
         refine done_ (done_of HT_.out (by kernel_rfl)) ?_
         try go_wp2
         go_meet
         case rel => exact ⟨_, (true), (by first | rfl | (simp; done) | (simp [*]; done)), H', ⟨by have := HK1.out; first | omega | exact Nat.le_refl _⟩, ⟨by (with_reducible repeat (first | apply Kd.R_alloc | apply Kd.R_drewN | apply Kd.R_drew)); exact HO_7.out⟩, ⟨by (with_reducible repeat (first | refine blk_drewN ?_ _ | refine blk_drew ?_ | refine blk_alloc ?_ _)); exact BK160.out⟩, ⟨by repeat (first | (with_reducible first | exact HB.out | apply below_alloc | apply pw_below_drewN | apply below_drew1 | refine below_set ?_ GE160.out) | exact HB.out)⟩⟩
        ·rw [if_neg c12] at H
         have c12b0 : decide ((l0.length : Int) < ((rd_T66 l1 x18_1).f0)) = false := decide_eq_false c12
         clear c12
         (first | rw [c12b0] | (simp only [i64_w, i32_w]; rw [c12b0]) | skip)
         by_cases c15 : (((rd_T66 l1 x18_1).f1).length : Int) > (wrap64 ((l0.length : Int) - ((rd_T66 l1 x18_1).f0)))
         ·rw [if_pos c15] at H
          have c15b0 : decide ((wrap64 ((l0.length : Int) - ((rd_T66 l1 x18_1).f0))) < (((rd_T66 l1 x18_1).f1).length : Int)) = true := decide_eq_true c15
          clear c15
          have H' := Aside0.mk H
          clear H
          try go_wp2
          have n0_ : Aside0 (Kd.R Kd.string 9 (((w10.setCell ⟨gb160, 0, none⟩ (.int .i64 ((rd_T66 l1 x18_1).f0))).setCell ⟨gb160, 1, none⟩ (.slice A159_1 ((rd_T66 l1 x18_1).f1).length c159_1)).setCell ⟨gb160, 2, none⟩ (.slice A159_2 ((rd_T66 l1 x18_1).f2).length c159_2)) w.heap.size (fun _ => True) u7 x7_1) := ⟨by (with_reducible repeat (first | apply Kd.R_alloc | apply Kd.R_drewN | apply Kd.R_drew)); exact Kd.R_mono (Kd.R_far (p := ⟨gb160, 2, none⟩) (Kd.R_far (p := ⟨gb160, 1, none⟩) (Kd.R_far (p := ⟨gb160, 0, none⟩) (Kd.R_types HO_7.out BK160.out (by decide)) (fun _ hk => hk.2) (.int .i64 ((rd_T66 l1 x18_1).f0))) (fun _ hk => hk.2) (.slice A159_1 ((rd_T66 l1 x18_1).f1).length c159_1)) (fun _ hk => hk.2) (.slice A159_2 ((rd_T66 l1 x18_1).f2).length c159_2)) (fun _ hk => trivial)⟩
          have n1_ : Aside0 ((((w10.setCell ⟨gb160, 0, none⟩ (.int .i64 ((rd_T66 l1 x18_1).f0))).setCell ⟨gb160, 1, none⟩ (.slice A159_1 ((rd_T66 l1 x18_1).f1).length c159_1)).setCell ⟨gb160, 2, none⟩ (.slice A159_2 ((rd_T66 l1 x18_1).f2).length c159_2)).heap[gb160]? = some (.cells #[.int .i64 ((rd_T66 l1 x18_1).f0), .slice A159_1 ((rd_T66 l1 x18_1).f1).length c159_1, .slice A159_2 ((rd_T66 l1 x18_1).f2).length c159_2] 66 (0, 0))) := ⟨by (with_reducible repeat (first | refine blk_drewN ?_ _ | refine blk_drew ?_ | refine blk_alloc ?_ _)); refine blk_put (cs := #[.int .i64 ((rd_T66 l1 x18_1).f0), .slice A159_1 ((rd_T66 l1 x18_1).f1).length c159_1, .slice none 0 0]) ?_ 2 _ rfl; (with_reducible repeat (first | refine blk_drewN ?_ _ | refine blk_drew ?_ | refine blk_alloc ?_ _)); refine blk_put (cs := #[.int .i64 ((rd_T66 l1 x18_1).f0), .slice none 0 0, .slice none 0 0]) ?_ 1 _ rfl; (with_reducible repeat (first | refine blk_drewN ?_ _ | refine blk_drew ?_ | refine blk_alloc ?_ _)); refine blk_put (cs := #[.int .i64 0, .slice none 0 0, .slice none 0 0]) ?_ 0 _ rfl; (with_reducible repeat (first | refine blk_drewN ?_ _ | refine blk_drew ?_ | refine blk_alloc ?_ _)); exact BK160.out⟩
          have n2_ : Aside0 (Below w.heap.size w (((w10.setCell ⟨gb160, 0, none⟩ (.int .i64 ((rd_T66 l1 x18_1).f0))).setCell ⟨gb160, 1, none⟩ (.slice A159_1 ((rd_T66 l1 x18_1).f1).length c159_1)).setCell ⟨gb160, 2, none⟩ (.slice A159_2 ((rd_T66 l1 x18_1).f2).length c159_2))) := ⟨by repeat (first | (with_reducible first | exact HB.out | apply below_alloc | apply pw_below_drewN | apply below_drew1 | refine below_set ?_ GE160.out) | exact HB.out)⟩
          (try clear HO_7)
          (try clear BK160)
          (try clear HB)
          generalize (((w10.setCell ⟨gb160, 0, none⟩ (.int .i64 ((rd_T66 l1 x18_1).f0))).setCell ⟨gb160, 1, none⟩ (.slice A159_1 ((rd_T66 l1 x18_1).f1).length c159_1)).setCell ⟨gb160, 2, none⟩ (.slice A159_2 ((rd_T66 l1 x18_1).f2).length c159_2)) = w16 at n0_ n1_ n2_ ⊢
          have HO_7 := n0_
          have BK160 := n1_
          have HB := n2_
          clear n0_ n1_ n2_
          have n0_ := Aside0.mk (Kd.R_drew HO_7.out)
          have n1_ := Aside0.mk (blk_drew BK160.out)
          have n2_ := Aside0.mk (below_drew1 HB.out)
          clear HO_7
          clear BK160
          clear HB
          have HO_7 := n0_
          have BK160 := n1_
          have HB := n2_
          clear n0_ n1_ n2_
          refine start_ (n := 32) (S := fun w' => w'.cell? ⟨gb160, 0, none⟩ = some (.int .i64 ((rd_T66 l1 x18_1).f0)) ∧ w'.cell? ⟨gb160, 1, none⟩ = some (.slice A159_1 ((rd_T66 l1 x18_1).f1).length c159_1) ∧ w'.cell? ⟨gb160, 2, none⟩ = some (.slice A159_2 ((rd_T66 l1 x18_1).f2).length c159_2)) (ds := []) #[false, false, false, false, false, false, false, false, false, false, false, false, false, false, false, false, false, false, false, false, false, false, false, false, false, false, false, false, false, false, false, false] (by kernel_rfl) rfl rfl ⟨(blk_cell BK160.out 0).trans rfl, (blk_cell BK160.out 1).trans rfl, (blk_cell BK160.out 2).trans rfl⟩ (fun hHeld => ?_); refine with_tabW diff_Apply.tab9 diff_Apply.bits9 (fun HT_ HW_ => ?_)
          generalize w16.drew = w17 at HO_7 BK160 HB hHeld ⊢
          refine pq_ 0 (some 22) HT_ ?_; refine pq_ 2 (some 24) HT_ ?_; refine pq_ 3 (some 25) HT_ ?_; refine tq_ 1 (some 23) HT_ HW_ hHeld ?_; refine pq_ 4 (some 26) HT_ ?_; refine pq_ 5 (some 27) HT_ ?_; refine pq_ 6 (some 28) HT_ ?_; refine pq_ 9 (some 31) HT_ ?_; refine pq_ 10 (some 32) HT_ ?_; refine pq_ 11 (some 33) HT_ ?_; refine tq_ 7 (some 29) HT_ HW_ hHeld ?_; refine pq_ 8 (some 30) HT_ ?_
          refine tq_ 12 (some 34) HT_ HW_ hHeld ?_; refine pq_ 13 (some 35) HT_ ?_; refine pq_ 14 (some 36) HT_ ?_; refine pq_ 15 (some 37) HT_ ?_; refine pq_ 16 (some 38) HT_ ?_; refine pf_ 17 (some 39) HT_ ?_; refine pf_ 18 (some 40) HT_ ?_; refine pf_ 19 (some 41) HT_ ?_; refine pf_ 20 (some 42) HT_ ?_; refine pf_ 21 (some 43) HT_ ?_; refine pf_ 22 (some 44) HT_ ?_; refine pf_ 23 (some 45) HT_ ?_
          refine pf_ 24 (some 46) HT_ ?_; refine pf_ 25 (some 47) HT_ ?_; refine pf_ 26 (some 48) HT_ ?_; refine pf_ 27 (some 49) HT_ ?_; refine pf_ 28 (some 50) HT_ ?_; refine pf_ 29 (some 51) HT_ ?_; refine pf_ 30 (some 52) HT_ ?_; refine pq_ 31 (some 53) HT_ ?_
          refine done_ (done_of HT_.out (by kernel_rfl)) ?_
          try go_wp2
          go_meet
          case rel => exact ⟨_, (true), (by first | rfl | (simp; done) | (simp [*]; done)), H', ⟨by have := HK1.out; first | omega | exact Nat.le_refl _⟩, ⟨by (with_reducible repeat (first | apply Kd.R_alloc | apply Kd.R_drewN | apply Kd.R_drew)); exact HO_7.out⟩, ⟨by (with_reducible repeat (first | refine blk_drewN ?_ _ | refine blk_drew ?_ | refine blk_alloc ?_ _)); exact BK160.out⟩, ⟨by repeat (first | (with_reducible first | exact HB.out | apply below_alloc | apply pw_below_drewN | apply below_drew1 | refine below_set ?_ GE160.out) | exact HB.out)⟩⟩
         ·rw [if_neg c15] at H
          have c15b0 : decide ((wrap64 ((l0.length : Int) - ((rd_T66 l1 x18_1).f0))) < (((rd_T66 l1 x18_1).f1).length : Int)) = false := decide_eq_false c15
          clear c15
          by_cases c18 : 0 ≤ ((rd_T66 l1 x18_1).f0)
          ·rw [if_pos c18] at H
           have c18b0 := eq_true c18
           have c18b1 : decide (0 ≤ ((rd_T66 l1 x18_1).f0)) = true := decide_eq_true c18
           clear c18
           by_cases c19 : ((rd_T66 l1 x18_1).f0) ≤ (wrap64 (((rd_T66 l1 x18_1).f0) + (((rd_T66 l1 x18_1).f1).length : Int)))
           ·rw [if_pos c19] at H
            have c19b0 := eq_true c19
            have c19b1 : decide (((rd_T66 l1 x18_1).f0) ≤ (wrap64 (((rd_T66 l1 x18_1).f0) + (((rd_T66 l1 x18_1).f1).length : Int)))) = true := decide_eq_true c19
            by_cases c20 : (wrap64 (((rd_T66 l1 x18_1).f0) + (((rd_T66 l1 x18_1).f1).length : Int))) ≤ (l0.length : Int)
            ·rw [if_pos c20] at H
             have c20b0 := eq_true c20
             have c20b1 : decide ((wrap64 (((rd_T66 l1 x18_1).f0) + (((rd_T66 l1 x18_1).f1).length : Int))) ≤ (l0.length : Int)) = true := decide_eq_true c20
             replace H := Option.bind_eq_some_iff.mp H
             obtain ⟨t162, A210, H⟩ := H
             replace H : (diff_Apply.j1 k1 l0 x7_1 x8_1 l1 (l1.length : Int) x18_1 (!t162) ((rd_T66 l1 x18_1).f0) ((rd_T66 l1 x18_1).f1) ((rd_T66 l1 x18_1).f2)) = some (r1, r2) := H
             have A21 := Aside0.mk A210
             clear A210
             have H' := Aside0.mk H
             clear H
             try go_wp2
             have n0_ : Aside0 (Kd.R Kd.string 9 (((w10.setCell ⟨gb160, 0, none⟩ (.int .i64 ((rd_T66 l1 x18_1).f0))).setCell ⟨gb160, 1, none⟩ (.slice A159_1 ((rd_T66 l1 x18_1).f1).length c159_1)).setCell ⟨gb160, 2, none⟩ (.slice A159_2 ((rd_T66 l1 x18_1).f2).length c159_2)) w.heap.size (fun _ => True) u7 x7_1) := ⟨by (with_reducible repeat (first | apply Kd.R_alloc | apply Kd.R_drewN | apply Kd.R_drew)); exact Kd.R_mono (Kd.R_far (p := ⟨gb160, 2, none⟩) (Kd.R_far (p := ⟨gb160, 1, none⟩) (Kd.R_far (p := ⟨gb160, 0, none⟩) (Kd.R_types HO_7.out BK160.out (by decide)) (fun _ hk => hk.2) (.int .i64 ((rd_T66 l1 x18_1).f0))) (fun _ hk => hk.2) (.slice A159_1 ((rd_T66 l1 x18_1).f1).length c159_1)) (fun _ hk => hk.2) (.slice A159_2 ((rd_T66 l1 x18_1).f2).length c159_2)) (fun _ hk => trivial)⟩
             have n1_ : Aside0 ((((w10.setCell ⟨gb160, 0, none⟩ (.int .i64 ((rd_T66 l1 x18_1).f0))).setCell ⟨gb160, 1, none⟩ (.slice A159_1 ((rd_T66 l1 x18_1).f1).length c159_1)).setCell ⟨gb160, 2, none⟩ (.slice A159_2 ((rd_T66 l1 x18_1).f2).length c159_2)).heap[gb160]? = some (.cells #[.int .i64 ((rd_T66 l1 x18_1).f0), .slice A159_1 ((rd_T66 l1 x18_1).f1).length c159_1, .slice A159_2 ((rd_T66 l1 x18_1).f2).length c159_2] 66 (0, 0))) := ⟨by (with_reducible repeat (first | refine blk_drewN ?_ _ | refine blk_drew ?_ | refine blk_alloc ?_ _)); refine blk_put (cs := #[.int .i64 ((rd_T66 l1 x18_1).f0), .slice A159_1 ((rd_T66 l1 x18_1).f1).length c159_1, .slice none 0 0]) ?_ 2 _ rfl; (with_reducible repeat (first | refine blk_drewN ?_ _ | refine blk_drew ?_ | refine blk_alloc ?_ _)); refine blk_put (cs := #[.int .i64 ((rd_T66 l1 x18_1).f0), .slice none 0 0, .slice none 0 0]) ?_ 1 _ rfl; (with_reducible repeat (first | refine blk_drewN ?_ _ | refine blk_drew ?_ | refine blk_alloc ?_ _)); refine blk_put (cs := #[.int .i64 0, .slice none 0 0, .slice none 0 0]) ?_ 0 _ rfl; (with_reducible repeat (first | refine blk_drewN ?_ _ | refine blk_drew ?_ | refine blk_alloc ?_ _)); exact BK160.out⟩
             have n2_ : Aside0 (Below w.heap.size w (((w10.setCell ⟨gb160, 0, none⟩ (.int .i64 ((rd_T66 l1 x18_1).f0))).setCell ⟨gb160, 1, none⟩ (.slice A159_1 ((rd_T66 l1 x18_1).f1).length c159_1)).setCell ⟨gb160, 2, none⟩ (.slice A159_2 ((rd_T66 l1 x18_1).f2).length c159_2))) := ⟨by repeat (first | (with_reducible first | exact HB.out | apply below_alloc | apply pw_below_drewN | apply below_drew1 | refine below_set ?_ GE160.out) | exact HB.out)⟩
             (try clear HO_7)
             (try clear BK160)
             (try clear HB)
             generalize (((w10.setCell ⟨gb160, 0, none⟩ (.int .i64 ((rd_T66 l1 x18_1).f0))).setCell ⟨gb160, 1, none⟩ (.slice A159_1 ((rd_T66 l1 x18_1).f1).length c159_1)).setCell ⟨gb160, 2, none⟩ (.slice A159_2 ((rd_T66 l1 x18_1).f2).length c159_2)) = w22 at n0_ n1_ n2_ ⊢
             have HO_7 := n0_
             have BK160 := n1_
             have HB := n2_
             clear n0_ n1_ n2_
             have n0_ := Aside0.mk (Kd.R_drew HO_7.out)
             have n1_ := Aside0.mk (blk_drew BK160.out)
             have n2_ := Aside0.mk (below_drew1 HB.out)
             clear HO_7
             clear BK160
             clear HB
             have HO_7 := n0_
             have BK160 := n1_
             have HB := n2_
             clear n0_ n1_ n2_
             obtain ⟨i024, hi024, _, hsz24, _⟩ := info_parts info9
             obtain ⟨A24, hcut24, hA24, hC24⟩ := print_mid_of (P := Try.prog) Value.string (⟨#[]⟩ : ByteArray) 22 9 .i64 .i64 Try.underlying22 hi024 hsz24 A0 c0 l0 ((rd_T66 l1 x18_1).f0) (wrap64 (((rd_T66 l1 x18_1).f0) + (((rd_T66 l1 x18_1).f1).length : Int))) (of_decide_eq_true (by first | (with_reducible assumption) | assumption)) (by first | omega | exact of_decide_eq_true (by first | (with_reducible assumption) | assumption)) (of_decide_eq_true (by first | (with_reducible assumption) | assumption)) HC0.out
             have HR161 := Aside0.mk (Kd.C_of_reads (h1 := fun _ => rfl) (hA24 _ (Kd.reads_of_C HR0.out)))
             have HC161 := Aside0.mk hC24
             clear hA24 hC24 hi024 hsz24
             refine start_ (n := 32) (S := fun w' => w'.cell? ⟨gb160, 0, none⟩ = some (.int .i64 ((rd_T66 l1 x18_1).f0)) ∧ w'.cell? ⟨gb160, 1, none⟩ = some (.slice A159_1 ((rd_T66 l1 x18_1).f1).length c159_1) ∧ w'.cell? ⟨gb160, 2, none⟩ = some (.slice A159_2 ((rd_T66 l1 x18_1).f2).length c159_2)) (ds := []) #[false, false, false, false, false, false, false, false, false, false, false, false, false, false, false, false, false, false, false, false, false, false, false, false, false, false, false, false, false, false, false, false] (by kernel_rfl) rfl rfl ⟨(blk_cell BK160.out 0).trans rfl, (blk_cell BK160.out 1).trans rfl, (blk_cell BK160.out 2).trans rfl⟩ (fun hHeld => ?_); refine with_tabW diff_Apply.tab9 diff_Apply.bits9 (fun HT_ HW_ => ?_)
             generalize w22.drew = w23 at HO_7 BK160 HB HR161 hHeld ⊢
             refine pq_ 0 (some 22) HT_ ?_; refine pq_ 2 (some 24) HT_ ?_; refine pq_ 3 (some 25) HT_ ?_; refine tq_ 1 (some 23) HT_ HW_ hHeld ?_; refine pq_ 4 (some 26) HT_ ?_; refine pq_ 5 (some 27) HT_ ?_; refine pq_ 6 (some 28) HT_ ?_; refine pq_ 9 (some 31) HT_ ?_; refine pq_ 10 (some 32) HT_ ?_; refine pq_ 11 (some 33) HT_ ?_; refine tq_ 7 (some 29) HT_ HW_ hHeld ?_; refine pq_ 8 (some 30) HT_ ?_
             refine tq_ 12 (some 34) HT_ HW_ hHeld ?_; refine pq_ 13 (some 35) HT_ ?_; refine pq_ 14 (some 36) HT_ ?_; refine pq_ 15 (some 37) HT_ ?_; refine pq_ 16 (some 38) HT_ ?_; refine pq_ 17 (some 39) HT_ ?_; refine pq_ 18 (some 40) HT_ ?_; refine pq_ 20 (some 42) HT_ ?_; refine pq_ 22 (some 44) HT_ ?_; refine pq_ 27 (some 49) HT_ ?_; refine tq_ 19 (some 41) HT_ HW_ hHeld ?_; refine tq_ 21 (some 43) HT_ HW_ hHeld ?_
             refine tq_ 23 (some 45) HT_ HW_ hHeld ?_; refine pq_ 24 (some 46) HT_ ?_; refine pq_ 25 (some 47) HT_ ?_; refine pq_ 26 (some 48) HT_ ?_; refine tq_ 28 (some 50) HT_ HW_ hHeld ?_
             refine one_ (i := 29) (N := some 51) #[true, true, true, true, true, true, true, true, true, true, true, true, true, true, true, true, true, true, true, true, true, true, true, true, true, true, true, true, true, true, false, false] rfl rfl (one_of HT_.out (by kernel_rfl)) (by decide) (fun K hK => ?_)
             refine goes_ Try.func51 (by kernel_rfl) rfl #[.slice A24 ((l0.take ((wrap64 (((rd_T66 l1 x18_1).f0) + (((rd_T66 l1 x18_1).f1).length : Int))) : Int).toNat).drop (((rd_T66 l1 x18_1).f0) : Int).toNat).length (c0 - ((rd_T66 l1 x18_1).f0).toNat), .slice A159_1 ((rd_T66 l1 x18_1).f1).length c159_1] (by rfl) rfl rfl (by (try simp only [List.map_toArray, List.map_cons, List.map_nil]); first | done | (rw [show ((l0.take ((wrap64 (((rd_T66 l1 x18_1).f0) + (((rd_T66 l1 x18_1).f1).length : Int))) : Int).toNat).drop (((rd_T66 l1 x18_1).f0) : Int).toNat).length = ((wrap64 (((rd_T66 l1 x18_1).f0) + (((rd_T66 l1 x18_1).f1).length : Int))).toNat - ((rd_T66 l1 x18_1).f0).toNat) from (by rw [List.length_drop, List.length_take]; have h_ : ((wrap64 (((rd_T66 l1 x18_1).f0) + (((rd_T66 l1 x18_1).f1).length : Int))) : Int) ≤ (l0.length : Int) := of_decide_eq_true (by first | (with_reducible assumption) | assumption); omega)] <;> rfl) | rfl | (simp only [List.length_drop, List.length_take]; rfl)) ?_
             with_reducible refine (lines_Same.calls k1 _ _ ((l0.take ((wrap64 (((rd_T66 l1 x18_1).f0) + (((rd_T66 l1 x18_1).f1).length : Int))) : Int).toNat).drop (((rd_T66 l1 x18_1).f0) : Int).toNat) _ _ ((rd_T66 l1 x18_1).f1) t162 _ ?side1 ?side2 ?side3 ?side4 A21.out).mono ?_
             (case side1 => repeat (first | exact (Kd.C_below HR161.out HB.out) | (with_reducible refine Kd.C_alloc ?_ _) | (with_reducible refine Kd.C_drewN ?_ _) | (with_reducible refine Kd.C_drew ?_)))
             (case side2 => exact HC161.out)
             (case side3 => repeat (first | exact (Kd.C_below HR159_1.out HB.out) | (with_reducible refine Kd.C_alloc ?_ _) | (with_reducible refine Kd.C_drewN ?_ _) | (with_reducible refine Kd.C_drew ?_)))
             (case side4 => exact HC159_1.out)
             rintro e w' ⟨rfl, ⟨nd, rfl⟩⟩
             refine ⟨_, rfl, ?_⟩
             refine hK.out _ _ ⟨(blk_cell BK160.out 0).trans rfl, (blk_cell BK160.out 1).trans rfl, (blk_cell BK160.out 2).trans rfl⟩ (fun hHeld => ?_)
             clear hK K
             refine norm_ (a' := ?_) ?_ ?_
             rotate_left
             ·show Act.put _ (some 51) _ = _
              simp only [Act.put, List.setIfInBounds_toArray, List.set_cons_zero, List.set_cons_succ, i64_w, i32_w]
              rfl
             refine pq_ 30 (some 52) HT_ ?_; refine pq_ 31 (some 53) HT_ ?_
             refine done_ (done_of HT_.out (by kernel_rfl)) ?_
             try go_wp2
             go_meet
             case rel => exact ⟨_, (!t162), (by first | rfl | (simp; done) | (simp [*]; done)), H', ⟨by have := HK1.out; first | omega | exact Nat.le_refl _⟩, ⟨by (with_reducible repeat (first | apply Kd.R_alloc | apply Kd.R_drewN | apply Kd.R_drew)); exact HO_7.out⟩, ⟨by (with_reducible repeat (first | refine blk_drewN ?_ _ | refine blk_drew ?_ | refine blk_alloc ?_ _)); exact BK160.out⟩, ⟨by repeat (first | (with_reducible first | exact HB.out | apply below_alloc | apply pw_below_drewN | apply below_drew1 | refine below_set ?_ GE160.out) | exact HB.out)⟩⟩
            ·rw [if_neg c20] at H
             exact absurd H (by simp)
           ·rw [if_neg c19] at H
            exact absurd H (by simp)
          ·rw [if_neg c18] at H
           exact absurd H (by simp)
       case rest =>
        clear HC9
        try clear c1
        try clear c2
        try clear p2
        try clear c5
        try clear p6
        try clear c12
        try clear c12b0
        try clear c15
        try clear c15b0
        try clear c18
        try clear c18b0
        try clear c18b1
        try clear c19
        try clear c19b0
        try clear c19b1
        try clear c20
        try clear c20b0
        try clear c20b1
        obtain ⟨kq, x53_8, rfl, HA, HJ8, HO_7, BK160, HB⟩ := hcut
        cases kq with
        | zero => exact absurd HA.out (by simp [diff_Apply.j1])
        | succ kj8 =>
         have H := HA.out
         clear HA
         simp only [diff_Apply.j1] at H
         by_cases c25 : x53_8 = true
         ·subst c25
          have H1 : (some (([] : List ByteArray), 13)) = some (r1, r2) := by rw [if_pos rfl] at H; exact H
          clear H
          have H := H1
          clear H1
          simp only [Option.some.injEq, Prod.mk.injEq] at H
          obtain ⟨rfl, rfl⟩ := H
          go_wp2
          go_ret2
          exact ⟨_, by first | rfl | (simp [errW_none, errW_some] <;> rfl) | (simp [*, errW_none, errW_some] <;> rfl), by first | exact Kd.R_nil _ _ _ _ _ | exact Kd.N_nil _ _ _ _ _ | exact Kd.V_nil _ _ _ _ _ | exact Kd.Q_nil _ _ _ _ _ | exact Kd.S_nil _ _ _ _ _, by repeat (first | (with_reducible first | exact HB.out | apply below_alloc | apply pw_below_drewN | apply below_drew1 | refine below_set ?_ GE160.out) | exact HB.out)⟩
         ·replace c25 := Bool.eq_false_iff.mpr c25
          subst c25
          have H1 : (if 0 ≤ x8_1 then (if x8_1 ≤ ((rd_T66 l1 x18_1).f0) then (if ((rd_T66 l1 x18_1).f0) ≤ (l0.length : Int) then (if x7_1.length + ((l0.take (((rd_T66 l1 x18_1).f0) : Int).toNat).drop (x8_1 : Int).toNat).length < 8796093022208 then ((some (x7_1 ++ ((l0.take (((rd_T66 l1 x18_1).f0) : Int).toNat).drop (x8_1 : Int).toNat) : List ByteArray)).bind fun y164 => (if y164.length + ((rd_T66 l1 x18_1).f2).length < 8796093022208 then (diff_Apply.l0 kj8 l0 (y164 ++ ((rd_T66 l1 x18_1).f2)) (wrap64 (((rd_T66 l1 x18_1).f0) + (((rd_T66 l1 x18_1).f1).length : Int))) l1 (l1.length : Int) (wrap64 (x18_1 + 1))) else (none))) else (none)) else (none)) else (none)) else (none)) = some (r1, r2) := by rw [if_neg (show ¬ (false = true) by decide)] at H; exact H
          clear H
          have H := H1
          clear H1
          by_cases c26 : 0 ≤ x8_1
          ·rw [if_pos c26] at H
           have c26b0 := eq_true c26
           have c26b1 : decide (0 ≤ x8_1) = true := decide_eq_true c26
           clear c26
           by_cases c27 : x8_1 ≤ ((rd_T66 l1 x18_1).f0)
           ·rw [if_pos c27] at H
            have c27b0 := eq_true c27
            have c27b1 : decide (x8_1 ≤ ((rd_T66 l1 x18_1).f0)) = true := decide_eq_true c27
            clear c27
            by_cases c28 : ((rd_T66 l1 x18_1).f0) ≤ (l0.length : Int)
            ·rw [if_pos c28] at H
             have c28b0 := eq_true c28
             have c28b1 : decide (((rd_T66 l1 x18_1).f0) ≤ (l0.length : Int)) = true := decide_eq_true c28
             clear c28
             by_cases c29 : x7_1.length + ((l0.take (((rd_T66 l1 x18_1).f0) : Int).toNat).drop (x8_1 : Int).toNat).length < 8796093022208
             ·rw [if_pos c29] at H
              have LMc29 := Aside0.mk c29
              clear c29
              obtain ⟨y164, hy164⟩ : ∃ y_ : List ByteArray, y_ = (x7_1 ++ ((l0.take (((rd_T66 l1 x18_1).f0) : Int).toNat).drop (x8_1 : Int).toNat)) := ⟨_, rfl⟩
              replace H : (if y164.length + ((rd_T66 l1 x18_1).f2).length < 8796093022208 then (diff_Apply.l0 kj8 l0 (y164 ++ ((rd_T66 l1 x18_1).f2)) (wrap64 (((rd_T66 l1 x18_1).f0) + (((rd_T66 l1 x18_1).f1).length : Int))) l1 (l1.length : Int) (wrap64 (x18_1 + 1))) else (none)) = some (r1, r2) := by first | (rw [hy164]; with_reducible exact H) | (have H2_ := (Option.bind_some _ _).symm.trans H; rw [hy164]; with_reducible exact H2_) | (have H2_ := (Option.bind_some _ _).symm.trans H; with_reducible exact H2_) | with_reducible exact H | (rw [hy164]; exact H) | exact H
              have Ny164 := Aside0.mk hy164
              clear hy164
              by_cases c30 : y164.length + ((rd_T66 l1 x18_1).f2).length < 8796093022208
              ·rw [if_pos c30] at H
               have LMc30 := Aside0.mk c30
               clear c30
               obtain ⟨y167, hy167⟩ : ∃ y_ : List ByteArray, y_ = (y164 ++ ((rd_T66 l1 x18_1).f2)) := ⟨_, rfl⟩
               replace H : (diff_Apply.l0 kj8 l0 y167 (wrap64 (((rd_T66 l1 x18_1).f0) + (((rd_T66 l1 x18_1).f1).length : Int))) l1 (l1.length : Int) (wrap64 (x18_1 + 1))) = some (r1, r2) := by first | (rw [hy167]; with_reducible exact H) | (have H2_ := (Option.bind_some _ _).symm.trans H; rw [hy167]; with_reducible exact H2_) | (have H2_ := (Option.bind_some _ _).symm.trans H; with_reducible exact H2_) | with_reducible exact H | (rw [hy167]; exact H) | exact H
               have Ny167 := Aside0.mk hy167
               clear hy167
               have H' := Aside0.mk H
               clear H
               try go_wp2
               have n0_ := Aside0.mk (Kd.R_drew HO_7.out)
               have n1_ := Aside0.mk (blk_drew BK160.out)
               have n2_ := Aside0.mk (below_drew1 HB.out)
               clear HO_7
               clear BK160
               clear HB
               have HO_7 := n0_
               have BK160 := n1_
               have HB := n2_
               clear n0_ n1_ n2_
               obtain ⟨i032, hi032, _, hsz32, _⟩ := info_parts info9
               obtain ⟨A32, hcut32, hA32, hC32⟩ := print_mid_of (P := Try.prog) Value.string (⟨#[]⟩ : ByteArray) 22 9 .i64 .i64 Try.underlying22 hi032 hsz32 A0 c0 l0 x8_1 ((rd_T66 l1 x18_1).f0) (of_decide_eq_true (by first | (with_reducible assumption) | assumption)) (by first | omega | exact of_decide_eq_true (by first | (with_reducible assumption) | assumption)) (of_decide_eq_true (by first | (with_reducible assumption) | assumption)) HC0.out
               have HR163 := Aside0.mk (Kd.C_of_reads (h1 := fun _ => rfl) (hA32 _ (Kd.reads_of_C HR0.out)))
               have HC163 := Aside0.mk hC32
               clear hA32 hC32 hi032 hsz32
               refine start_ (n := 11) (S := fun w' => w'.cell? ⟨gb160, 0, none⟩ = some (.int .i64 ((rd_T66 l1 x18_1).f0)) ∧ w'.cell? ⟨gb160, 1, none⟩ = some (.slice A159_1 ((rd_T66 l1 x18_1).f1).length c159_1) ∧ w'.cell? ⟨gb160, 2, none⟩ = some (.slice A159_2 ((rd_T66 l1 x18_1).f2).length c159_2)) (ds := []) #[false, false, false, false, false, false, false, false, false, false, false] (by kernel_rfl) rfl rfl ⟨(blk_cell BK160.out 0).trans rfl, (blk_cell BK160.out 1).trans rfl, (blk_cell BK160.out 2).trans rfl⟩ (fun hHeld => ?_); refine with_tabW diff_Apply.tab11 diff_Apply.bits11 (fun HT_ HW_ => ?_)
               generalize wc.drew = w31 at HO_7 BK160 HB HR163 hHeld ⊢
               refine pq_ 0 (some 54) HT_ ?_; refine pq_ 1 (some 55) HT_ ?_; refine pq_ 2 (some 56) HT_ ?_; refine pq_ 3 (some 57) HT_ ?_; refine pq_ 7 (some 61) HT_ ?_; refine tq_ 4 (some 58) HT_ HW_ hHeld ?_; refine pq_ 5 (some 59) HT_ ?_; refine tq_ 8 (some 62) HT_ HW_ hHeld ?_
               refine one_ (i := 6) (N := some 60) #[true, true, true, true, true, true, true, true, true, false, false] rfl rfl (one_of HT_.out (by kernel_rfl)) (by decide) (fun K hK => ?_)
               refine Kd.R_append_rows_step Kd.string (w0 := w) w.heap.size (by rfl) (.tmp 54) (.tmp 59) 22 9 (.string ⟨#[]⟩) 16 rfl Try.underlying22 info9 rfl (by decide) (by omega) u7 x7_1 ((l0.take (((rd_T66 l1 x18_1).f0) : Int).toNat).drop (x8_1 : Int).toNat) _ _ _ (fun _ => True) (fun _ => False) rfl rfl ?aO ?aR (fun _ _ h => h) (fun _ h => h.elim) ?aF ?aB ?aS ?aL ?_
               (case aR => first | (rw [← show ((l0.take (((rd_T66 l1 x18_1).f0) : Int).toNat).drop (x8_1 : Int).toNat).length = (((rd_T66 l1 x18_1).f0).toNat - x8_1.toNat) from (by rw [List.length_drop, List.length_take]; have h_ : (((rd_T66 l1 x18_1).f0) : Int) ≤ (l0.length : Int) := of_decide_eq_true (by first | (with_reducible assumption) | assumption); omega)]; repeat (first | exact (Kd.C_below HR163.out HB.out) | (with_reducible refine Kd.C_alloc ?_ _) | (with_reducible refine Kd.C_drewN ?_ _) | (with_reducible refine Kd.C_drew ?_))) | (repeat (first | exact (Kd.C_below HR163.out HB.out) | (with_reducible refine Kd.C_alloc ?_ _) | (with_reducible refine Kd.C_drewN ?_ _) | (with_reducible refine Kd.C_drew ?_))))
               (case aB => exact (by repeat (first | (with_reducible first | exact HB.out | apply below_alloc | apply pw_below_drewN | apply below_drew1 | refine below_set ?_ GE160.out) | exact HB.out)))
               (case aF => exact (fun _ _ => trivial))
               (case aO => exact (by (with_reducible repeat (first | apply Kd.R_alloc | apply Kd.R_drewN | apply Kd.R_drew)); exact HO_7.out))
               (case aS => exact (below_size (by repeat (first | (with_reducible first | exact HB.out | apply below_alloc | apply pw_below_drewN | apply below_drew1 | refine below_set ?_ GE160.out) | exact HB.out))))
               (case aL => have := LMc29.out; have hlx_ := (show ((l0.take (((rd_T66 l1 x18_1).f0) : Int).toNat).drop (x8_1 : Int).toNat).length = (((rd_T66 l1 x18_1).f0).toNat - x8_1.toNat) from (by rw [List.length_drop, List.length_take]; have h_ : (((rd_T66 l1 x18_1).f0) : Int) ≤ (l0.length : Int) := of_decide_eq_true (by first | (with_reducible assumption) | assumption); omega)); omega)
               intro v165 w33 ho hb hg hat
               rw [← Ny164.out] at ho
               have n0_ := Aside0.mk (blk_grown (g := gb160) (o := .cells #[.int .i64 ((rd_T66 l1 x18_1).f0), .slice A159_1 ((rd_T66 l1 x18_1).f1).length c159_1, .slice A159_2 ((rd_T66 l1 x18_1).f2).length c159_2] 66 (0, 0)) (by (with_reducible repeat (first | refine blk_drewN ?_ _ | refine blk_drew ?_ | refine blk_alloc ?_ _)); exact BK160.out) hg (Kd.R_ne HO_7.out BK160.out (by decide)))
               have n1_ := Aside0.mk (hb)
               have n2_ := Aside0.mk (ho)
               clear BK160
               clear HB
               clear HO_7
               have BK160 := n0_
               have HB := n1_
               have HO166 := n2_
               clear n0_ n1_ n2_
               clear ho hb hg hat
               refine hK.out _ _ ⟨(blk_cell BK160.out 0).trans rfl, (blk_cell BK160.out 1).trans rfl, (blk_cell BK160.out 2).trans rfl⟩ (fun hHeld => ?_)
               clear hK K
               refine norm_ (a' := ?_) ?_ ?_
               rotate_left
               ·show Act.put _ (some 60) _ = _
                simp only [Act.put, List.setIfInBounds_toArray, List.set_cons_zero, List.set_cons_succ, i64_w, i32_w]
                rfl
               refine one_ (i := 9) (N := some 63) #[true, true, true, true, true, true, true, true, true, true, false] rfl rfl (one_of HT_.out (by kernel_rfl)) (by decide) (fun K hK => ?_)
               refine Kd.R_append_rows_step Kd.string (w0 := w) w.heap.size (by rfl) (.tmp 60) (.tmp 62) 22 9 (.string ⟨#[]⟩) 16 rfl Try.underlying22 info9 rfl (by decide) (by omega) v165 y164 ((rd_T66 l1 x18_1).f2) _ _ _ (fun _ => True) (fun _ => False) rfl rfl ?aO ?aR (fun _ _ h => h) (fun _ h => h.elim) ?aF ?aB ?aS ?aL ?_
               (case aR => repeat (first | exact (Kd.C_below HR159_2.out HB.out) | (with_reducible refine Kd.C_alloc ?_ _) | (with_reducible refine Kd.C_drewN ?_ _) | (with_reducible refine Kd.C_drew ?_)))
               (case aB => exact (by repeat (first | (with_reducible first | exact HB.out | apply below_alloc | apply pw_below_drewN | apply below_drew1 | refine below_set ?_ GE160.out) | exact HB.out)))
               (case aF => exact (fun _ _ => trivial))
               (case aO => exact (by (with_reducible repeat (first | apply Kd.R_alloc | apply Kd.R_drewN | apply Kd.R_drew)); exact HO166.out))
               (case aS => exact (below_size (by repeat (first | (with_reducible first | exact HB.out | apply below_alloc | apply pw_below_drewN | apply below_drew1 | refine below_set ?_ GE160.out) | exact HB.out))))
               (case aL => have := LMc30.out; omega)
               intro v168 w34 ho hb hg hat
               rw [← Ny167.out] at ho
               have n0_ := Aside0.mk (blk_grown (g := gb160) (o := .cells #[.int .i64 ((rd_T66 l1 x18_1).f0), .slice A159_1 ((rd_T66 l1 x18_1).f1).length c159_1, .slice A159_2 ((rd_T66 l1 x18_1).f2).length c159_2] 66 (0, 0)) (by (with_reducible repeat (first | refine blk_drewN ?_ _ | refine blk_drew ?_ | refine blk_alloc ?_ _)); exact BK160.out) hg (Kd.R_ne HO166.out BK160.out (by decide)))
               have n1_ := Aside0.mk (hb)
               have n2_ := Aside0.mk (ho)
               clear BK160
               clear HB
               clear HO166
               have BK160 := n0_
               have HB := n1_
               have HO169 := n2_
               clear n0_ n1_ n2_
               clear ho hb hg hat
               refine hK.out _ _ ⟨(blk_cell BK160.out 0).trans rfl, (blk_cell BK160.out 1).trans rfl, (blk_cell BK160.out 2).trans rfl⟩ (fun hHeld => ?_)
               clear hK K
               refine norm_ (a' := ?_) ?_ ?_
               rotate_left
               ·show Act.put _ (some 63) _ = _
                simp only [Act.put, List.setIfInBounds_toArray, List.set_cons_zero, List.set_cons_succ, i64_w, i32_w]
                rfl
               refine pq_ 10 (some 7) HT_ ?_
               refine done_ (done_of HT_.out (by kernel_rfl)) ?_
               have hcz35_0 : w34.cell? ⟨gb160, 0, none⟩ = some (.int .i64 ((rd_T66 l1 x18_1).f0)) := (blk_cell BK160.out 0).trans rfl
               have hcz35_1 : w34.cell? ⟨gb160, 1, none⟩ = some (.slice A159_1 ((rd_T66 l1 x18_1).f1).length c159_1) := (blk_cell BK160.out 1).trans rfl
               have hcz35_2 : w34.cell? ⟨gb160, 2, none⟩ = some (.slice A159_2 ((rd_T66 l1 x18_1).f2).length c159_2) := (blk_cell BK160.out 2).trans rfl
               have hfz35_0 := blk_frozen BK160.out 0
               have hfz35_1 := blk_frozen BK160.out 1
               have hfz35_2 := blk_frozen BK160.out 2
               try go_wp2
               go_roundg kj8
               case measure => have := HK1.out; have := HJ8.out; omega
               case rel => exact ⟨(y167), (wrap64 (((rd_T66 l1 x18_1).f0) + (((rd_T66 l1 x18_1).f1).length : Int))), (wrap64 (x18_1 + 1)), (by first | rfl | (simp; done) | (simp [*]; done)), (by first | rfl | (simp; done) | (simp [*]; done)), H', ⟨by have := HK1.out; have := HJ8.out; omega⟩, ⟨by (with_reducible repeat (first | apply Kd.R_alloc | apply Kd.R_drewN | apply Kd.R_drew)); exact HO169.out⟩, ⟨by repeat (first | (with_reducible first | exact HB.out | apply below_alloc | apply pw_below_drewN | apply below_drew1 | refine below_set ?_ GE160.out) | exact HB.out)⟩⟩
              ·rw [if_neg c30] at H
               exact absurd H (by simp)
             ·rw [if_neg c29] at H
              exact absurd H (by simp)
            ·rw [if_neg c28] at H
             exact absurd H (by simp)
           ·rw [if_neg c27] at H
            exact absurd H (by simp)
          ·rw [if_neg c26] at H
           exact absurd H (by simp)
      ·rw [if_neg c8] at H
       exact absurd H (by simp)
     ·rw [if_neg c7] at H
      exact absurd H (by simp)
    ·rw [if_neg c6] at H
     have c6b0 : decide (x18_1 < (l1.length : Int)) = false := decide_eq_false c6
     clear c6
     by_cases c36 : 0 ≤ x8_1
     ·rw [if_pos c36] at H
      have c36b0 := eq_true c36
      have c36b1 : decide (0 ≤ x8_1) = true := decide_eq_true c36
      clear c36
      by_cases c37 : x8_1 ≤ (l0.length : Int)
      ·rw [if_pos c37] at H
       have c37b0 := eq_true c37
       have c37b1 : decide (x8_1 ≤ (l0.length : Int)) = true := decide_eq_true c37
       clear c37
       by_cases c38 : x7_1.length + (l0.drop (x8_1 : Int).toNat).length < 8796093022208
       ·rw [if_pos c38] at H
        have LMc38 := Aside0.mk c38
        clear c38
        obtain ⟨y156, hy156⟩ : ∃ y_ : List ByteArray, y_ = (x7_1 ++ (l0.drop (x8_1 : Int).toNat)) := ⟨_, rfl⟩
        replace H : (some (y156, 0)) = some (r1, r2) := by first | (rw [hy156]; with_reducible exact H) | (have H2_ := (Option.bind_some _ _).symm.trans H; rw [hy156]; with_reducible exact H2_) | (have H2_ := (Option.bind_some _ _).symm.trans H; with_reducible exact H2_) | with_reducible exact H | (rw [hy156]; exact H) | exact H
        have Ny156 := Aside0.mk hy156
        clear hy156
        simp only [Option.some.injEq, Prod.mk.injEq] at H
        obtain ⟨rfl, rfl⟩ := H
        obtain ⟨i039, hi039, _, hsz39, _⟩ := info_parts info9
        obtain ⟨A39, hcut39, hA39, hC39⟩ := print_drop_of (P := Try.prog) Value.string (⟨#[]⟩ : ByteArray) 22 9 .i64 Try.underlying22 hi039 hsz39 A0 c0 l0 x8_1 (of_decide_eq_true (by first | (with_reducible assumption) | assumption)) (of_decide_eq_true (by first | (with_reducible assumption) | assumption)) HC0.out
        have HR155 := Aside0.mk (Kd.C_of_reads (h1 := fun _ => rfl) (hA39 _ (Kd.reads_of_C HR0.out)))
        have HC155 := Aside0.mk hC39
        clear hA39 hC39 hi039 hsz39
        go_wp2_with (first | ((with_reducible refine gate_builtin (b := .append) (xs := #[.tmp 71, .tmp 74]) rfl ?_); (try (refine gate_guard (by rfl) ?_; dsimp only)); at_builtin; refine Kd.R_append_rows Kd.string (w0 := w) w.heap.size rfl (.tmp 71) (.tmp 74) 22 9 (.string ⟨#[]⟩) 16 rfl Try.underlying22 info9 rfl (by decide) (by omega) u7 x7_1 (l0.drop (x8_1 : Int).toNat) _ _ _ (fun _ => True) (fun _ => False) rfl rfl ?aO ?aR (fun _ _ h => h) (fun _ h => h.elim) ?aF ?aB ?aS ?aL ?_; (case aR => first | (rw [← show (l0.drop (x8_1 : Int).toNat).length = (l0.length - x8_1.toNat) from List.length_drop]; repeat (first | exact (Kd.C_below HR155.out HB.out) | (with_reducible refine Kd.C_alloc ?_ _) | (with_reducible refine Kd.C_drewN ?_ _) | (with_reducible refine Kd.C_drew ?_))) | (repeat (first | exact (Kd.C_below HR155.out HB.out) | (with_reducible refine Kd.C_alloc ?_ _) | (with_reducible refine Kd.C_drewN ?_ _) | (with_reducible refine Kd.C_drew ?_)))); (case aB => exact (by repeat (first | (with_reducible first | exact HB.out | apply below_alloc | apply pw_below_drewN | apply below_drew1) | exact HB.out))); (case aF => exact (fun _ _ => trivial)); (case aO => exact (by (with_reducible repeat (first | apply Kd.R_alloc | apply Kd.R_drewN | apply Kd.R_drew)); exact HO_7.out)); (case aS => exact (below_size (by repeat (first | (with_reducible first | exact HB.out | apply below_alloc | apply pw_below_drewN | apply below_drew1) | exact HB.out)))); (case aL => have := LMc38.out; have hlx_ := (show (l0.drop (x8_1 : Int).toNat).length = (l0.length - x8_1.toNat) from List.length_drop); omega); intro v157 w40 ho hb hg hat; rw [← Ny156.out] at ho; have n0_ := Aside0.mk (hb); have n1_ := Aside0.mk (ho); clear HB; clear HO_7; have HB := n0_; have HO158 := n1_; clear n0_ n1_; clear ho hb hg hat))
        go_ret2
        exact ⟨_, by first | rfl | (simp [errW_none, errW_some] <;> rfl) | (simp [*, errW_none, errW_some] <;> rfl), by (with_reducible repeat (first | apply Kd.R_alloc | apply Kd.R_drewN | apply Kd.R_drew)); exact HO158.out, by repeat (first | (with_reducible first | exact HB.out | apply below_alloc | apply pw_below_drewN | apply below_drew1) | exact HB.out)⟩
       ·rw [if_neg c38] at H
        exact absurd H (by simp)
      ·rw [if_neg c37] at H
       exact absurd H (by simp)
     ·rw [if_neg c36] at H
      exact absurd H (by simp)
 ·rw [if_neg c4] at H
  have c4b0 : (t154 == 0) = false := beq_eq_false_iff_ne.mpr c4
  have c4b1 : (t154 != 0) = true := bne_iff_ne.mpr c4
  simp only [Option.some.injEq, Prod.mk.injEq] at H
  obtain ⟨rfl, rfl⟩ := H
  go_enter Try.func14, Try.ntmps14
  go_wp2_with (first | ((with_reducible refine gate_callee (f := 24) rfl ?_); refine goesL_ (some 12) rfl rfl Try.func24 (by kernel_rfl) rfl #[.slice A1 l1.length c1] rfl (by (try simp only [List.map_toArray, List.map_cons, List.map_nil]); first | done | rfl | (simp only [List.length_drop, List.length_take]; rfl)) ?_; (with_reducible refine (diff_Check.calls k _ _ l1 t154 _ ?side1 ?side2 A3.out).mono ?_); (case side1 => repeat (first | exact HR1.out | (with_reducible refine Kd.C_alloc ?_ _) | (with_reducible refine Kd.C_drewN ?_ _) | (with_reducible refine Kd.C_drew ?_))); (case side2 => exact HC1.out); rintro e w41 ⟨rfl, hb⟩; refine ⟨_, rfl, ?_⟩; have n0_ := Aside0.mk (below_step (by repeat (first | (with_reducible first | exact HB.out | apply below_alloc | apply pw_below_drewN | apply below_drew1) | exact HB.out)) hb); clear HB; have HB := n0_; clear n0_; (try clear hb); (try clear hb2); (try clear hk); (try clear hi)))
  go_ret2
  exact ⟨_, by first | rfl | (simp [errW_none, errW_some] <;> rfl) | (simp [*, errW_none, errW_some] <;> rfl), by first | exact Kd.R_nil _ _ _ _ _ | exact Kd.N_nil _ _ _ _ _ | exact Kd.V_nil _ _ _ _ _ | exact Kd.Q_nil _ _ _ _ _ | exact Kd.S_nil _ _ _ _ _, by repeat (first | (with_reducible first | exact HB.out | apply below_alloc | apply pw_below_drewN | apply below_drew1) | exact HB.out)⟩

/-! ### diff_Invert: function 15 -/
def diff_Invert.l0 : Nat → List (S66) → Int → List (S66) → Int → Int → Option ((List (S66)))
 | 0, _, _, _, _, _ => none
 | k + 1, x3, x4, x11, x12, x13 => if x13 < x12 then (if 0 ≤ x13 then (if x13 < (x11.length : Int) then ((slices_Clone_string_string.f ((rd_T66 x11 x13).f2)).bind fun t173 => ((slices_Clone_string_string.f ((rd_T66 x11 x13).f1)).bind fun t176 => (if x3.length < 2513169434916 then (diff_Invert.l0 k (x3 ++ [(⟨wrap64 (((rd_T66 x11 x13).f0) + x4), t173, t176⟩ : S66)]) (wrap64 (x4 + (wrap64 ((((rd_T66 x11 x13).f2).length : Int) - (((rd_T66 x11 x13).f1).length : Int))))) x11 x12 (wrap64 (x13 + 1))) else (none)))) else (none)) else (none)) else (some x3)
def diff_Invert.f (k : Nat) (l0 : List (S66)) : Option ((List (S66))) := (diff_Check.f k l0).bind fun t170 => (if t170 = 0 then (diff_Invert.l0 k ([] : List (S66)) 0 l0 (l0.length : Int) 0) else (some ([] : List (S66))))
theorem diff_Invert.mono_l : ∀ k, (∀ y0 y1 y2 y3 y4, LeO (diff_Invert.l0 k y0 y1 y2 y3 y4) (diff_Invert.l0 (k + 1) y0 y1 y2 y3 y4))
 | 0 => fun _ _ _ _ _ r h => by simp [diff_Invert.l0] at h
 | k + 1 => by
  have ih0 := diff_Invert.mono_l k
  ·intro y0 y1 y2 y3 y4
   unfold diff_Invert.l0
   repeat' first
   | (with_reducible exact ih0 _ _ _ _ _)
   | (with_reducible exact diff_Check.mono _ _)
   | (with_reducible exact LeO.refl _)
   | (with_reducible exact LeO.none _)
   | (with_reducible refine LeO.ite ?_ ?_)
   | (with_reducible refine LeO.bind ?_ (fun _ => ?_))
   | exact ih0 _ _ _ _ _
   | exact diff_Check.mono _ _
   | exact LeO.none _
   | refine LeO.ite ?_ ?_
   | refine LeO.bind ?_ (fun _ => ?_)
theorem diff_Invert.mono : ∀ a0 k, LeO (diff_Invert.f k a0) (diff_Invert.f (k + 1) a0) := by
 intro a0 k
 have ih0 := diff_Invert.mono_l k
 unfold diff_Invert.f
 repeat' first
   | (with_reducible exact ih0 _ _ _ _ _)
   | (with_reducible exact diff_Check.mono _ _)
   | (with_reducible exact LeO.refl _)
   | (with_reducible exact LeO.none _)
   | (with_reducible refine LeO.ite ?_ ?_)
   | (with_reducible refine LeO.bind ?_ (fun _ => ?_))
   | exact ih0 _ _ _ _ _
   | exact diff_Check.mono _ _
   | exact LeO.none _
   | refine LeO.ite ?_ ?_
   | refine LeO.bind ?_ (fun _ => ?_)
def diff_Invert.T8 : Bool × List (List Nat × List Nat) := (true, [([], []), ([], []), ([1], [1]), ([], []), ([2, 3], [2, 3]), ([], []), ([5], [5]), ([6], [6]), ([], []), ([8], [8]), ([9, 7], [9]), ([4, 7, 10], [4, 7, 10]), ([11], [11]), ([0, 12, 10], [0, 12]), ([13, 13, 0, 1, 2, 3, 4, 5, 6, 7, 8, 9, 10, 11, 12, 13], [0, 13])])
def diff_Invert.B8 : List Nat := [0, 0, 2, 0, 14, 0, 32, 96, 0, 256, 992, 2046, 4094, 8191, 16383]
theorem diff_Invert.tab8 : rtab .any (opsOf Try.f15 8) = diff_Invert.T8 := by kernel_rfl
theorem diff_Invert.bits8 : waitsOk diff_Invert.T8.2 diff_Invert.B8 = true := by kernel_rfl
set_option maxHeartbeats 8000000 in
set_option maxRecDepth 100000 in
theorem diff_Invert.calls (k : Nat) (A0 : Option Addr) (c0 : Nat) (l0 : List (S66)) (r : List (S66)) (w : World) (hr0 : Kd.C k66 w A0 l0.length l0) (hc0 : l0.length ≤ c0) (h : diff_Invert.f k l0 = some r) :
  Calls Try.prog 15 #[.slice A0 l0.length c0] w fun e w' => ∃ v0_ : Value, e = .returned (v0_) ∧ Kd.S k66 66 w' w.heap.size (fun _ => True) v0_ r ∧ Below w.heap.size w w' := by
 have hu66 := Try.underlying66
 have HR0 := Aside0.mk hr0
 have HC0 := Aside0.mk hc0
 clear hr0 hc0
 have HB := Aside0.mk (Below.refl w.heap.size w)
 have H : ((diff_Check.f k l0).bind fun t170 => (if t170 = 0 then (diff_Invert.l0 k ([] : List (S66)) 0 l0 (l0.length : Int) 0) else (some ([] : List (S66))))) = some r := h
 clear h
 replace H := Option.bind_eq_some_iff.mp H
 obtain ⟨t170, A20, H⟩ := H
 replace H : (if t170 = 0 then (diff_Invert.l0 k ([] : List (S66)) 0 l0 (l0.length : Int) 0) else (some ([] : List (S66)))) = some r := H
 have A2 := Aside0.mk A20
 clear A20
 by_cases c3 : t170 = 0
 ·rw [if_pos c3] at H
  have c3b0 : (t170 == 0) = true := beq_iff_eq.mpr c3
  have c3b1 : (t170 != 0) = false := bne_eq_false_iff_eq.mpr c3
  clear c3
  have H' := Aside0.mk H
  clear H
  go_enter Try.func15, Try.ntmps15
  go_wp2_with (first | ((with_reducible refine gate_callee (f := 24) rfl ?_); refine goesL_ (some 8) rfl rfl Try.func24 (by kernel_rfl) rfl #[.slice A0 l0.length c0] rfl (by (try simp only [List.map_toArray, List.map_cons, List.map_nil]); first | done | rfl | (simp only [List.length_drop, List.length_take]; rfl)) ?_; (with_reducible refine (diff_Check.calls k _ _ l0 t170 _ ?side1 ?side2 A2.out).mono ?_); (case side1 => repeat (first | exact HR0.out | (with_reducible refine Kd.C_alloc ?_ _) | (with_reducible refine Kd.C_drewN ?_ _) | (with_reducible refine Kd.C_drew ?_))); (case side2 => exact HC0.out); rintro e w4 ⟨rfl, hb⟩; refine ⟨_, rfl, ?_⟩; have n0_ := Aside0.mk (below_step (by repeat (first | (with_reducible first | exact HB.out | apply below_alloc | apply pw_below_drewN | apply below_drew1) | exact HB.out)) hb); clear HB; have HB := n0_; clear n0_; (try clear hb); (try clear hb2); (try clear hk); (try clear hi)))
  go_loopg [3, 4, 13] k (fun kq v3 v4 v13 w' => ∃ (x3_1 : List (S66)) (x4_1 : Int) (x13_1 : Int), v4 = .int .i64 x4_1 ∧ v13 = .int .i64 x13_1 ∧ Aside0 (diff_Invert.l0 kq x3_1 x4_1 l0 (l0.length : Int) x13_1 = some r) ∧ Aside0 (kq ≤ k) ∧ Aside0 (Kd.S k66 66 w' w.heap.size (fun _ => True) v3 x3_1) ∧ Aside0 (Below w.heap.size w w'))
  case atStart => exact ⟨(([] : List (S66))), (0), (0), (by first | rfl | (simp; done) | (simp [*]; done)), (by first | rfl | (simp; done) | (simp [*]; done)), H', ⟨Nat.le_refl _⟩, ⟨by first | exact Kd.S_nil _ _ _ _ _ | exact Kd.N_nil _ _ _ _ _ | exact Kd.V_nil _ _ _ _ _ | exact Kd.Q_nil _ _ _ _ _ | exact Kd.R_nil _ _ _ _ _⟩, ⟨by repeat (first | (with_reducible first | exact HB.out | apply below_alloc | apply pw_below_drewN | apply below_drew1) | exact HB.out)⟩⟩
  case round =>
   clear H'
   try clear c1
   try clear c2
   try clear p2
   try clear c3
   try clear c3b0
   try clear c3b1
   obtain ⟨x3_1, x4_1, x13_1, rfl, rfl, HA, HK1, HO_3, HB⟩ := hrel
   cases gk with
   | zero => exact absurd HA.out (by simp [diff_Invert.l0])
   | succ k1 =>
    have H := HA.out
    clear HA
    simp only [diff_Invert.l0] at H
    by_cases c5 : x13_1 < (l0.length : Int)
    ·rw [if_pos c5] at H
     have c5b0 : decide (x13_1 < (l0.length : Int)) = true := decide_eq_true c5
     clear c5
     by_cases c6 : 0 ≤ x13_1
     ·rw [if_pos c6] at H
      have c6b0 : decide (0 ≤ x13_1) = true := decide_eq_true c6
      clear c6
      by_cases c7 : x13_1 < (l0.length : Int)
      ·rw [if_pos c7] at H
       have c7b0 : decide (x13_1 < (l0.length : Int)) = true := decide_eq_true c7
       clear c7
       replace H := Option.bind_eq_some_iff.mp H
       obtain ⟨t173, A80, H⟩ := H
       replace H : ((slices_Clone_string_string.f ((rd_T66 l0 x13_1).f1)).bind fun t176 => (if x3_1.length < 2513169434916 then (diff_Invert.l0 k1 (x3_1 ++ [(⟨wrap64 (((rd_T66 l0 x13_1).f0) + x4_1), t173, t176⟩ : S66)]) (wrap64 (x4_1 + (wrap64 ((((rd_T66 l0 x13_1).f2).length : Int) - (((rd_T66 l0 x13_1).f1).length : Int))))) l0 (l0.length : Int) (wrap64 (x13_1 + 1))) else (none))) = some r := H
       have A8 := Aside0.mk A80
       clear A80
       replace H := Option.bind_eq_some_iff.mp H
       obtain ⟨t176, A90, H⟩ := H
       replace H : (if x3_1.length < 2513169434916 then (diff_Invert.l0 k1 (x3_1 ++ [(⟨wrap64 (((rd_T66 l0 x13_1).f0) + x4_1), t173, t176⟩ : S66)]) (wrap64 (x4_1 + (wrap64 ((((rd_T66 l0 x13_1).f2).length : Int) - (((rd_T66 l0 x13_1).f1).length : Int))))) l0 (l0.length : Int) (wrap64 (x13_1 + 1))) else (none)) = some r := H
       have A9 := Aside0.mk A90
       clear A90
       by_cases c10 : x3_1.length < 2513169434916
       ·rw [if_pos c10] at H
        have LMc10 := Aside0.mk c10
        clear c10
        obtain ⟨y179, hy179⟩ : ∃ y_ : List (S66), y_ = (x3_1 ++ [(⟨wrap64 (((rd_T66 l0 x13_1).f0) + x4_1), t173, t176⟩ : S66)]) := ⟨_, rfl⟩
        replace H : (diff_Invert.l0 k1 y179 (wrap64 (x4_1 + (wrap64 ((((rd_T66 l0 x13_1).f2).length : Int) - (((rd_T66 l0 x13_1).f1).length : Int))))) l0 (l0.length : Int) (wrap64 (x13_1 + 1))) = some r := by first | (rw [hy179]; with_reducible exact H) | (have H2_ := (Option.bind_some _ _).symm.trans H; rw [hy179]; with_reducible exact H2_) | (have H2_ := (Option.bind_some _ _).symm.trans H; with_reducible exact H2_) | with_reducible exact H | (rw [hy179]; exact H) | exact H
        have Ny179 := Aside0.mk hy179
        clear hy179
        have H' := Aside0.mk H
        clear H
        have p171 : 0 ≤ (x13_1 : Int) := of_decide_eq_true (by first | (with_reducible assumption) | assumption)
        have q171 : x13_1 < (l0.length : Int) := of_decide_eq_true (by first | (with_reducible assumption) | assumption)
        obtain ⟨ad171, A171_1, c171_1, A171_2, c171_2, e171, hx171_0, hx171_1, hx171_2, hl171_1, hi171_1, hl171_2, hi171_2⟩ := at_T66 HR0.out x13_1 p171 q171
        cases e171
        replace hx171_0 := (HB.out.cell (World.block_lt_of_cell? w _ hx171_0)).trans hx171_0
        replace hx171_1 := (HB.out.cell (World.block_lt_of_cell? w _ hx171_1)).trans hx171_1
        replace hx171_2 := (HB.out.cell (World.block_lt_of_cell? w _ hx171_2)).trans hx171_2
        have HR171_1 := Aside0.mk hi171_1
        have HC171_1 := Aside0.mk hl171_1
        clear hi171_1 hl171_1
        have HR171_2 := Aside0.mk hi171_2
        have HC171_2 := Aside0.mk hl171_2
        clear hi171_2 hl171_2
        replace p171 := eq_true p171
        replace q171 := eq_true q171
        try go_wp2_with (first | ((with_reducible refine gate_dst (N := 6) rfl ?_); refine box_event ?hg (N := 6) ?hd (cs := #[.int .i64 0, .slice none 0 0, .slice none 0 0]) (t := 66) ?hr ?_; (case hd => rfl); (case hg => rfl); (case hr => first | (go_simp; done) | (go_simp; rfl)); intro gb172 hg w11 hbox hb; have n0_ := Aside0.mk (Kd.S_below (Kd.S_elderB (by (with_reducible repeat (first | apply Kd.S_alloc | apply Kd.S_drewN | apply Kd.S_drew)); exact HO_3.out) gb172 (Nat.le_of_eq hg.symm)) hb); have n1_ := Aside0.mk (below_step (by repeat (first | (with_reducible first | exact HB.out | apply below_alloc | apply pw_below_drewN | apply below_drew1) | exact HB.out)) hb); have n2_ := Aside0.mk (hbox); have n3_ := Aside0.mk ((by rw [hg]; exact (below_size (by repeat (first | (with_reducible first | exact HB.out | apply below_alloc | apply pw_below_drewN | apply below_drew1) | exact HB.out))) : w.heap.size ≤ gb172)); have n4_ := Aside0.mk ((by rw [hg]; exact (below_size (by repeat (first | (with_reducible first | exact HB.out | apply below_alloc | apply pw_below_drewN | apply below_drew1) | exact HB.out))) : w.heap.size ≤ gb172)); clear HO_3; clear HB; have HO_3 := n0_; have HB := n1_; have BK172 := n2_; have GW172 := n3_; have GE172 := n4_; clear n0_ n1_ n2_ n3_ n4_; clear hb hbox hg; have hcz12_0 : w11.cell? ⟨gb172, 0, none⟩ = some (.int .i64 0) := (blk_cell BK172.out 0).trans rfl; have hcz12_1 : w11.cell? ⟨gb172, 1, none⟩ = some (.slice none 0 0) := (blk_cell BK172.out 1).trans rfl; have hcz12_2 : w11.cell? ⟨gb172, 2, none⟩ = some (.slice none 0 0) := (blk_cell BK172.out 2).trans rfl; have hfz12_0 := blk_frozen BK172.out 0; have hfz12_1 := blk_frozen BK172.out 1; have hfz12_2 := blk_frozen BK172.out 2))
        have n0_ : Aside0 (Kd.S k66 66 (((w11.setCell ⟨gb172, 0, none⟩ (.int .i64 ((rd_T66 l0 x13_1).f0))).setCell ⟨gb172, 1, none⟩ (.slice A171_1 ((rd_T66 l0 x13_1).f1).length c171_1)).setCell ⟨gb172, 2, none⟩ (.slice A171_2 ((rd_T66 l0 x13_1).f2).length c171_2)) w.heap.size (fun k_ => k_ ≠ gb172) u3 x3_1) := ⟨by (with_reducible repeat (first | apply Kd.S_alloc | apply Kd.S_drewN | apply Kd.S_drew)); exact Kd.S_mono (Kd.S_far (p := ⟨gb172, 2, none⟩) (Kd.S_far (p := ⟨gb172, 1, none⟩) (Kd.S_far (p := ⟨gb172, 0, none⟩) (Kd.S_mono HO_3.out (fun k_ hk => (⟨hk, hk.2⟩ : _ ∧ k_ ≠ gb172))) (fun _ hk => hk.2) (.int .i64 ((rd_T66 l0 x13_1).f0))) (fun _ hk => hk.2) (.slice A171_1 ((rd_T66 l0 x13_1).f1).length c171_1)) (fun _ hk => hk.2) (.slice A171_2 ((rd_T66 l0 x13_1).f2).length c171_2)) (fun _ hk => hk.1.2)⟩
        have n1_ : Aside0 ((((w11.setCell ⟨gb172, 0, none⟩ (.int .i64 ((rd_T66 l0 x13_1).f0))).setCell ⟨gb172, 1, none⟩ (.slice A171_1 ((rd_T66 l0 x13_1).f1).length c171_1)).setCell ⟨gb172, 2, none⟩ (.slice A171_2 ((rd_T66 l0 x13_1).f2).length c171_2)).heap[gb172]? = some (.cells #[.int .i64 ((rd_T66 l0 x13_1).f0), .slice A171_1 ((rd_T66 l0 x13_1).f1).length c171_1, .slice A171_2 ((rd_T66 l0 x13_1).f2).length c171_2] 66 (0, 0))) := ⟨by (with_reducible repeat (first | refine blk_drewN ?_ _ | refine blk_drew ?_ | refine blk_alloc ?_ _)); refine blk_put (cs := #[.int .i64 ((rd_T66 l0 x13_1).f0), .slice A171_1 ((rd_T66 l0 x13_1).f1).length c171_1, .slice none 0 0]) ?_ 2 _ rfl; (with_reducible repeat (first | refine blk_drewN ?_ _ | refine blk_drew ?_ | refine blk_alloc ?_ _)); refine blk_put (cs := #[.int .i64 ((rd_T66 l0 x13_1).f0), .slice none 0 0, .slice none 0 0]) ?_ 1 _ rfl; (with_reducible repeat (first | refine blk_drewN ?_ _ | refine blk_drew ?_ | refine blk_alloc ?_ _)); refine blk_put (cs := #[.int .i64 0, .slice none 0 0, .slice none 0 0]) ?_ 0 _ rfl; (with_reducible repeat (first | refine blk_drewN ?_ _ | refine blk_drew ?_ | refine blk_alloc ?_ _)); exact BK172.out⟩
        have n2_ : Aside0 (Below w.heap.size w (((w11.setCell ⟨gb172, 0, none⟩ (.int .i64 ((rd_T66 l0 x13_1).f0))).setCell ⟨gb172, 1, none⟩ (.slice A171_1 ((rd_T66 l0 x13_1).f1).length c171_1)).setCell ⟨gb172, 2, none⟩ (.slice A171_2 ((rd_T66 l0 x13_1).f2).length c171_2))) := ⟨by repeat (first | (with_reducible first | exact HB.out | apply below_alloc | apply pw_below_drewN | apply below_drew1 | refine below_set ?_ GE172.out) | exact HB.out)⟩
        (try clear HO_3)
        (try clear BK172)
        (try clear HB)
        generalize (((w11.setCell ⟨gb172, 0, none⟩ (.int .i64 ((rd_T66 l0 x13_1).f0))).setCell ⟨gb172, 1, none⟩ (.slice A171_1 ((rd_T66 l0 x13_1).f1).length c171_1)).setCell ⟨gb172, 2, none⟩ (.slice A171_2 ((rd_T66 l0 x13_1).f2).length c171_2)) = w13 at n0_ n1_ n2_ ⊢
        have HO_3 := n0_
        have BK172 := n1_
        have HB := n2_
        clear n0_ n1_ n2_
        have n0_ := Aside0.mk (Kd.S_drew HO_3.out)
        have n1_ := Aside0.mk (blk_drew BK172.out)
        have n2_ := Aside0.mk (below_drew1 HB.out)
        clear HO_3
        clear BK172
        clear HB
        have HO_3 := n0_
        have BK172 := n1_
        have HB := n2_
        clear n0_ n1_ n2_
        refine start_ (n := 15) (S := fun w' => w'.cell? ⟨gb172, 0, none⟩ = some (.int .i64 ((rd_T66 l0 x13_1).f0)) ∧ w'.cell? ⟨gb172, 1, none⟩ = some (.slice A171_1 ((rd_T66 l0 x13_1).f1).length c171_1) ∧ w'.cell? ⟨gb172, 2, none⟩ = some (.slice A171_2 ((rd_T66 l0 x13_1).f2).length c171_2)) (ds := []) #[false, false, false, false, false, false, false, false, false, false, false, false, false, false, false] (by kernel_rfl) rfl rfl ⟨(blk_cell BK172.out 0).trans rfl, (blk_cell BK172.out 1).trans rfl, (blk_cell BK172.out 2).trans rfl⟩ (fun hHeld => ?_); refine with_tabW diff_Invert.tab8 diff_Invert.bits8 (fun HT_ HW_ => ?_)
        generalize w13.drew = w14 at HO_3 BK172 HB hHeld ⊢
        refine pq_ 0 (some 17) HT_ ?_; refine pq_ 1 (some 18) HT_ ?_; refine pq_ 3 (some 20) HT_ ?_; refine pq_ 5 (some 22) HT_ ?_; refine pq_ 8 (some 25) HT_ ?_; refine tq_ 2 (some 19) HT_ HW_ hHeld ?_; refine pq_ 4 (some 21) HT_ ?_; refine tq_ 6 (some 23) HT_ HW_ hHeld ?_; refine tq_ 9 (some 26) HT_ HW_ hHeld ?_
        refine one_ (i := 7) (N := some 24) #[true, true, true, true, true, true, true, true, true, true, false, false, false, false, false] rfl rfl (one_of HT_.out (by kernel_rfl)) (by decide) (fun K hK => ?_)
        refine goes_ Try.func52 (by kernel_rfl) rfl #[.slice A171_2 ((rd_T66 l0 x13_1).f2).length c171_2] (by rfl) rfl rfl (by (try simp only [List.map_toArray, List.map_cons, List.map_nil]); first | done | rfl | (simp only [List.length_drop, List.length_take]; rfl)) ?_
        with_reducible refine (slices_Clone_string_string.calls _ _ ((rd_T66 l0 x13_1).f2) t173 _ ?side1 ?side2 A8.out).mono ?_
        (case side1 => repeat (first | exact (Kd.C_below HR171_2.out HB.out) | (with_reducible refine Kd.C_alloc ?_ _) | (with_reducible refine Kd.C_drewN ?_ _) | (with_reducible refine Kd.C_drew ?_)))
        (case side2 => exact HC171_2.out)
        rintro e w15 ⟨v174, rfl, ho0, hb⟩
        refine ⟨_, rfl, ?_⟩
        have n0_ := Aside0.mk (Kd.S_elder' (by (with_reducible repeat (first | apply Kd.S_alloc | apply Kd.S_drewN | apply Kd.S_drew)); exact HO_3.out) (Kd.R_base ho0) hb)
        have n1_ := Aside0.mk (Kd.R_lower ho0 (below_size (by repeat (first | (with_reducible first | exact HB.out | apply below_alloc | apply pw_below_drewN | apply below_drew1 | refine below_set ?_ GE172.out) | exact HB.out))))
        have n2_ := Aside0.mk (blk_below (g := gb172) (o := .cells #[.int .i64 ((rd_T66 l0 x13_1).f0), .slice A171_1 ((rd_T66 l0 x13_1).f1).length c171_1, .slice A171_2 ((rd_T66 l0 x13_1).f2).length c171_2] 66 (0, 0)) (by (with_reducible repeat (first | refine blk_drewN ?_ _ | refine blk_drew ?_ | refine blk_alloc ?_ _)); exact BK172.out) hb)
        have n3_ := Aside0.mk (below_step (by repeat (first | (with_reducible first | exact HB.out | apply below_alloc | apply pw_below_drewN | apply below_drew1 | refine below_set ?_ GE172.out) | exact HB.out)) hb)
        clear HO_3
        clear BK172
        clear HB
        have HO_3 := n0_
        have HO175 := n1_
        have BK172 := n2_
        have HB := n3_
        clear n0_ n1_ n2_ n3_
        (try clear hb)
        (try clear hb2)
        (try clear hk)
        (try clear hi)
        (try clear ho0)
        refine hK.out _ _ ⟨(blk_cell BK172.out 0).trans rfl, (blk_cell BK172.out 1).trans rfl, (blk_cell BK172.out 2).trans rfl⟩ (fun hHeld => ?_)
        clear hK K
        refine norm_ (a' := ?_) ?_ ?_
        rotate_left
        ·show Act.put _ (some 24) _ = _
         simp only [Act.put, List.setIfInBounds_toArray, List.set_cons_zero, List.set_cons_succ, i64_w, i32_w]
         rfl
        refine one_ (i := 10) (N := some 27) #[true, true, true, true, true, true, true, true, true, true, true, false, false, false, false] rfl rfl (one_of HT_.out (by kernel_rfl)) (by decide) (fun K hK => ?_)
        refine goes_ Try.func52 (by kernel_rfl) rfl #[.slice A171_1 ((rd_T66 l0 x13_1).f1).length c171_1] (by rfl) rfl rfl (by (try simp only [List.map_toArray, List.map_cons, List.map_nil]); first | done | rfl | (simp only [List.length_drop, List.length_take]; rfl)) ?_
        with_reducible refine (slices_Clone_string_string.calls _ _ ((rd_T66 l0 x13_1).f1) t176 _ ?side1 ?side2 A9.out).mono ?_
        (case side1 => repeat (first | exact (Kd.C_below HR171_1.out HB.out) | (with_reducible refine Kd.C_alloc ?_ _) | (with_reducible refine Kd.C_drewN ?_ _) | (with_reducible refine Kd.C_drew ?_)))
        (case side2 => exact HC171_1.out)
        rintro e w16 ⟨v177, rfl, ho0, hb⟩
        refine ⟨_, rfl, ?_⟩
        have n0_ := Aside0.mk (Kd.S_elder' (by (with_reducible repeat (first | apply Kd.S_alloc | apply Kd.S_drewN | apply Kd.S_drew)); exact HO_3.out) (Kd.R_base ho0) hb)
        have n1_ := Aside0.mk (Kd.R_elder' (by (with_reducible repeat (first | apply Kd.R_alloc | apply Kd.R_drewN | apply Kd.R_drew)); exact HO175.out) (Kd.R_base ho0) hb)
        have n2_ := Aside0.mk (Kd.R_lower (Kd.R_new' ho0 (Kd.R_lt (by (with_reducible repeat (first | apply Kd.R_alloc | apply Kd.R_drewN | apply Kd.R_drew)); exact HO175.out))) (below_size (by repeat (first | (with_reducible first | exact HB.out | apply below_alloc | apply pw_below_drewN | apply below_drew1 | refine below_set ?_ GE172.out) | exact HB.out))))
        have n3_ := Aside0.mk (blk_below (g := gb172) (o := .cells #[.int .i64 ((rd_T66 l0 x13_1).f0), .slice A171_1 ((rd_T66 l0 x13_1).f1).length c171_1, .slice A171_2 ((rd_T66 l0 x13_1).f2).length c171_2] 66 (0, 0)) (by (with_reducible repeat (first | refine blk_drewN ?_ _ | refine blk_drew ?_ | refine blk_alloc ?_ _)); exact BK172.out) hb)
        have n4_ := Aside0.mk (below_step (by repeat (first | (with_reducible first | exact HB.out | apply below_alloc | apply pw_below_drewN | apply below_drew1 | refine below_set ?_ GE172.out) | exact HB.out)) hb)
        clear HO_3
        clear HO175
        clear BK172
        clear HB
        have HO_3 := n0_
        have HO175 := n1_
        have HO178 := n2_
        have BK172 := n3_
        have HB := n4_
        clear n0_ n1_ n2_ n3_ n4_
        (try clear hb)
        (try clear hb2)
        (try clear hk)
        (try clear hi)
        (try clear ho0)
        obtain ⟨Ao17, co17, eo17⟩ := Kd.R_slice HO178.out
        (first | subst eo17 | (injection eo17 with f1_ f2_ f3_; have f4_ := f1_.symm; have f5_ := f3_.symm; clear f1_ f2_ f3_; subst f4_; subst f5_))
        obtain ⟨Ao18, co18, eo18⟩ := Kd.R_slice HO175.out
        (first | subst eo18 | (injection eo18 with f1_ f2_ f3_; have f4_ := f1_.symm; have f5_ := f3_.symm; clear f1_ f2_ f3_; subst f4_; subst f5_))
        refine hK.out _ _ ⟨(blk_cell BK172.out 0).trans rfl, (blk_cell BK172.out 1).trans rfl, (blk_cell BK172.out 2).trans rfl⟩ (fun hHeld => ?_)
        clear hK K
        refine norm_ (a' := ?_) ?_ ?_
        rotate_left
        ·show Act.put _ (some 27) _ = _
         simp only [Act.put, List.setIfInBounds_toArray, List.set_cons_zero, List.set_cons_succ, i64_w, i32_w]
         rfl
        refine pq_ 11 (some 28) HT_ ?_
        refine one_ (i := 12) (N := some 29) #[true, true, true, true, true, true, true, true, true, true, true, true, true, false, false] rfl rfl (one_of HT_.out (by kernel_rfl)) (by decide) (fun K hK => ?_)
        refine value_ (w1 := ?_) (v := ?_) (by rfl) rfl ?_ ?_
        rotate_left 2
        ·go_simp
         constructor
         ·rfl
         ·rfl
        refine hK.out _ _ ⟨(blk_cell (blk_alloc BK172.out _) 0).trans rfl, (blk_cell (blk_alloc BK172.out _) 1).trans rfl, (blk_cell (blk_alloc BK172.out _) 2).trans rfl⟩ (fun hHeld => ?_)
        clear hK K
        refine norm_ (a' := ?_) ?_ ?_
        rotate_left
        ·show Act.put _ (some 29) _ = _
         simp only [Act.put, List.setIfInBounds_toArray, List.set_cons_zero, List.set_cons_succ, i64_w, i32_w]
         rfl
        refine one_ (i := 13) (N := some 30) #[true, true, true, true, true, true, true, true, true, true, true, true, true, true, false] rfl rfl (one_of HT_.out (by kernel_rfl)) (by decide) (fun K hK => ?_)
        refine Kd.S_append_step k66 (w0 := w) w.heap.size (by rfl) (.tmp 17) (.tmp 29) 25 66 (.agg #[(.int .i64 0), (.slice none 0 0), (.slice none 0 0)]) 56 rfl Try.underlying25 info66 rfl (by decide) (by omega) u3 x3_1 (⟨wrap64 (((rd_T66 l0 x13_1).f0) + x4_1), t173, t176⟩ : S66) [.int .i64 (wrap64 (((rd_T66 l0 x13_1).f0) + x4_1)), .slice Ao18 t173.length co18, .slice Ao17 t176.length co17] (fun k_ => k_ ≠ gb172) (fun k_ => some k_ = (.slice Ao18 t173.length co18 : Value).ownBlock ∨ some k_ = (.slice Ao17 t176.length co17 : Value).ownBlock) rfl rfl ?aP (fun k_ hk_ => hk_.elim (fun h_ => ((Kd.R_mono (ok' := fun k_ => ((fun k_ => k_ ≠ gb172)) k_ ∧ some k_ ≠ (u3 : Value).ownBlock) (Kd.R_types (Kd.R_apart' (HO175.out) (Kd.S_typed HO_3.out) (by decide)) BK172.out (by decide)) (fun k_ hk => ⟨hk.2, hk.1.2⟩))).1 k_ h_.symm) (fun h_ => ((Kd.R_mono (ok' := fun k_ => ((fun k_ => k_ ≠ gb172)) k_ ∧ some k_ ≠ (u3 : Value).ownBlock) (Kd.R_types (Kd.R_apart' (HO178.out) (Kd.S_typed HO_3.out) (by decide)) BK172.out (by decide)) (fun k_ hk => ⟨hk.2, hk.1.2⟩))).1 k_ h_.symm)) ?aF ?aO ?aB ?aS ?aL ?_
        (case aP => exact k66_mkM _ _ _ (⟨wrap64 (((rd_T66 l0 x13_1).f0) + x4_1), t173, t176⟩ : S66) (Kd.R_mono (Kd.R_tight rfl (Kd.R_mono (ok' := fun k_ => ((fun k_ => k_ ≠ gb172)) k_ ∧ some k_ ≠ (u3 : Value).ownBlock) (Kd.R_types (Kd.R_apart' (HO175.out) (Kd.S_typed HO_3.out) (by decide)) BK172.out (by decide)) (fun k_ hk => ⟨hk.2, hk.1.2⟩))) (fun _ h_ => Or.inl h_)) (Kd.R_mono (Kd.R_tight rfl (Kd.R_mono (ok' := fun k_ => ((fun k_ => k_ ≠ gb172)) k_ ∧ some k_ ≠ (u3 : Value).ownBlock) (Kd.R_types (Kd.R_apart' (HO178.out) (Kd.S_typed HO_3.out) (by decide)) BK172.out (by decide)) (fun k_ hk => ⟨hk.2, hk.1.2⟩))) (fun _ h_ => Or.inr (h_))))
        (case aB => exact (by repeat (first | (with_reducible first | exact HB.out | apply below_alloc | apply pw_below_drewN | apply below_drew1 | refine below_set ?_ GE172.out) | exact HB.out)))
        (case aF => exact (fun k_ hk => Kd.freshB (g := gb172) (o := .cells #[.int .i64 ((rd_T66 l0 x13_1).f0), .slice A171_1 ((rd_T66 l0 x13_1).f1).length c171_1, .slice A171_2 ((rd_T66 l0 x13_1).f2).length c171_2] 66 (0, 0)) (by (with_reducible repeat (first | refine blk_drewN ?_ _ | refine blk_drew ?_ | refine blk_alloc ?_ _)); exact BK172.out) k_ hk))
        (case aO => exact (by (with_reducible repeat (first | apply Kd.S_alloc | apply Kd.S_drewN | apply Kd.S_drew)); exact Kd.S_mono HO_3.out (fun k_ hk => ⟨hk.1.1, fun e_ => e_.elim (fun h_ => hk.1.2 h_) (fun h_ => hk.2 h_)⟩)))
        (case aS => exact (below_size (by repeat (first | (with_reducible first | exact HB.out | apply below_alloc | apply pw_below_drewN | apply below_drew1 | refine below_set ?_ GE172.out) | exact HB.out))))
        (case aL => have := LMc10.out; omega)
        intro v180 w19 ho hb hg hat
        rw [← Ny179.out] at ho
        have n0_ := Aside0.mk (blk_grown (g := gb172) (o := .cells #[.int .i64 ((rd_T66 l0 x13_1).f0), .slice A171_1 ((rd_T66 l0 x13_1).f1).length c171_1, .slice A171_2 ((rd_T66 l0 x13_1).f2).length c171_2] 66 (0, 0)) (by (with_reducible repeat (first | refine blk_drewN ?_ _ | refine blk_drew ?_ | refine blk_alloc ?_ _)); exact BK172.out) hg (Kd.S_away HO_3.out (fun _ hk => hk.1.1)))
        have n1_ := Aside0.mk (hb)
        have n2_ := Aside0.mk (ho)
        clear BK172
        clear HB
        clear HO_3
        clear HO175
        clear HO178
        have BK172 := n0_
        have HB := n1_
        have HO181 := n2_
        clear n0_ n1_ n2_
        clear ho hb hg hat
        refine hK.out _ _ ⟨(blk_cell BK172.out 0).trans rfl, (blk_cell BK172.out 1).trans rfl, (blk_cell BK172.out 2).trans rfl⟩ (fun hHeld => ?_)
        clear hK K
        refine norm_ (a' := ?_) ?_ ?_
        rotate_left
        ·show Act.put _ (some 30) _ = _
         simp only [Act.put, List.setIfInBounds_toArray, List.set_cons_zero, List.set_cons_succ, i64_w, i32_w]
         rfl
        refine pq_ 14 (some 3) HT_ ?_
        refine done_ (done_of HT_.out (by kernel_rfl)) ?_
        have hcz20_0 : w19.cell? ⟨gb172, 0, none⟩ = some (.int .i64 ((rd_T66 l0 x13_1).f0)) := (blk_cell BK172.out 0).trans rfl
        have hcz20_1 : w19.cell? ⟨gb172, 1, none⟩ = some (.slice A171_1 ((rd_T66 l0 x13_1).f1).length c171_1) := (blk_cell BK172.out 1).trans rfl
        have hcz20_2 : w19.cell? ⟨gb172, 2, none⟩ = some (.slice A171_2 ((rd_T66 l0 x13_1).f2).length c171_2) := (blk_cell BK172.out 2).trans rfl
        have hfz20_0 := blk_frozen BK172.out 0
        have hfz20_1 := blk_frozen BK172.out 1
        have hfz20_2 := blk_frozen BK172.out 2
        try go_wp2
        go_roundg k1
        case measure => have := HK1.out; omega
        case rel => exact ⟨(y179), (wrap64 (x4_1 + (wrap64 ((((rd_T66 l0 x13_1).f2).length : Int) - (((rd_T66 l0 x13_1).f1).length : Int))))), (wrap64 (x13_1 + 1)), (by first | rfl | (simp; done) | (simp [*]; done)), (by first | rfl | (simp; done) | (simp [*]; done)), H', ⟨by have := HK1.out; omega⟩, ⟨by (with_reducible repeat (first | apply Kd.S_alloc | apply Kd.S_drewN | apply Kd.S_drew)); exact Kd.S_mono HO181.out (fun _ hk => trivial)⟩, ⟨by repeat (first | (with_reducible first | exact HB.out | apply below_alloc | apply pw_below_drewN | apply below_drew1 | refine below_set ?_ GE172.out) | exact HB.out)⟩⟩
       ·rw [if_neg c10] at H
        exact absurd H (by simp)
      ·rw [if_neg c7] at H
       exact absurd H (by simp)
     ·rw [if_neg c6] at H
      exact absurd H (by simp)
    ·rw [if_neg c5] at H
     have c5b0 : decide (x13_1 < (l0.length : Int)) = false := decide_eq_false c5
     clear c5
     obtain rfl := Option.some.inj H
     go_wp2
     go_ret
     exact ⟨_, by first | rfl | (simp [errW_none, errW_some] <;> rfl) | (simp [*, errW_none, errW_some] <;> rfl), by (with_reducible repeat (first | apply Kd.S_alloc | apply Kd.S_drewN | apply Kd.S_drew)); exact HO_3.out, by repeat (first | (with_reducible first | exact HB.out | apply below_alloc | apply pw_below_drewN | apply below_drew1) | exact HB.out)⟩
 ·rw [if_neg c3] at H
  have c3b0 : (t170 == 0) = false := beq_eq_false_iff_ne.mpr c3
  have c3b1 : (t170 != 0) = true := bne_iff_ne.mpr c3
  obtain rfl := Option.some.inj H
  go_enter Try.func15, Try.ntmps15
  go_wp2_with (first | ((with_reducible refine gate_callee (f := 24) rfl ?_); refine goesL_ (some 8) rfl rfl Try.func24 (by kernel_rfl) rfl #[.slice A0 l0.length c0] rfl (by (try simp only [List.map_toArray, List.map_cons, List.map_nil]); first | done | rfl | (simp only [List.length_drop, List.length_take]; rfl)) ?_; (with_reducible refine (diff_Check.calls k _ _ l0 t170 _ ?side1 ?side2 A2.out).mono ?_); (case side1 => repeat (first | exact HR0.out | (with_reducible refine Kd.C_alloc ?_ _) | (with_reducible refine Kd.C_drewN ?_ _) | (with_reducible refine Kd.C_drew ?_))); (case side2 => exact HC0.out); rintro e w21 ⟨rfl, hb⟩; refine ⟨_, rfl, ?_⟩; have n0_ := Aside0.mk (below_step (by repeat (first | (with_reducible first | exact HB.out | apply below_alloc | apply pw_below_drewN | apply below_drew1) | exact HB.out)) hb); clear HB; have HB := n0_; clear n0_; (try clear hb); (try clear hb2); (try clear hk); (try clear hi)))
  go_ret
  exact ⟨_, by first | rfl | (simp [errW_none, errW_some] <;> rfl) | (simp [*, errW_none, errW_some] <;> rfl), by first | exact Kd.S_nil _ _ _ _ _ | exact Kd.N_nil _ _ _ _ _ | exact Kd.V_nil _ _ _ _ _ | exact Kd.Q_nil _ _ _ _ _ | exact Kd.R_nil _ _ _ _ _, by repeat (first | (with_reducible first | exact HB.out | apply below_alloc | apply pw_below_drewN | apply below_drew1) | exact HB.out)⟩

end Go.Proofs.Ytnegeacpfkcecaa.XDiff
